/-
  TidyTells: the walk.
-/
import Derived.Test.YtdbcmjambajffaaR22B
namespace Go.Proofs.Ytdbcmjambajffaa
open Go.RowKit
set_option linter.unusedSimpArgs false
set_option linter.unusedVariables false

/-- the runs are compared, in the midst -/
def TellTo (n : Nat) (wA : World) (ok i : Value) (wr : World) : Prop := ∃ k m : Nat, k ≤ n ∧ i = .int .i64 k ∧ ok = .bool true ∧ wr = wA.drewN m

set_option maxRecDepth 20000 in
set_option maxHeartbeats 2000000 in
theorem tidyTells_walk (many f : Int) (v : Value) (zs : List Int) (a b d : Int) (w : World) (hv : WsAt w v zs) (hu : U64s zs) (hf : 0 ≤ f ∧ f < 18446744073709551616) :
    Calls Try.prog 3 #[.int .i64 many, .int .u64 f, v, .int .i64 a, .int .i64 b, .int .i64 d] w (RetFr (.bool true) w (allOf w)) := by
  have hH := holds_all w
  have hle := ReadsAt.le hv
  have HV := Lib.hid (fun (wx : World) (hx : Holds wx (allOf w)) => hv.keep (fun p u hu => all_cell (H := []) (by simpa using hx) hu))
  obtain ⟨_, A, c, rfl, _⟩ := hv
  unfold maxLen at hle
  by_cases h60 : 60 < zs.length
  · have HA := Lib.hid (awake22_any w _ hH)
    clear HV
    go_enter Try.func3, Try.ntmps3
    go_wp2_with fail
    refine HA.out.mono ?_
    rintro e w1 ⟨rfl, hH1, hg1⟩
    go_wp2_with fail
    go_ret
    exact ⟨rfl, hH1, hg1⟩
  · have HZ1 : Hid (∀ x ∈ zs.map (Value.int .u64), x.oneCell' = true) := Lib.hid (by intro x hx; obtain ⟨y, _, rfl⟩ := List.mem_map.1 hx; rfl)
    have HP := Lib.hid (fun (wx : World) (Fx : HL) (h1 : Holds wx (allOf w)) (hx : Holds wx Fx) => pick_any many f _ zs wx Fx (HV.out wx h1) hx (by omega))
    have HR := Lib.hid (fun (wx : World) (Fx : HL) (h1 : Holds wx (allOf w)) (hx : Holds wx Fx) => runs_any _ zs wx Fx (HV.out wx h1) hx (by omega) hu)
    have HRR := Lib.hid (fun (wx : World) (Fx : HL) (h1 : ∀ wy, Holds wy Fx → Holds wy (allOf w)) (hx : Holds wx Fx) => r22runs_any _ zs wx Fx (fun wy hy => HV.out wy (h1 wy hy)) hx (by omega) hu)
    have HRP := Lib.hid (fun (wx : World) (Fx : HL) (h1 : ∀ wy, Holds wy Fx → Holds wy (allOf w)) (hx : Holds wx Fx) => r22pick_any many f _ zs wx Fx (fun wy hy => HV.out wy (h1 wy hy)) hx (by omega) hu hf)
    have HB1 := Lib.hid (fun (wx : World) (h1 : Holds wx (allOf w)) => tdbehind_any f _ zs wx (HV.out wx h1))
    have HB2 := Lib.hid (fun (wx : World) (h1 : Holds wx (allOf w)) => r22behind_any f _ zs wx (HV.out wx h1))
    have HO1 := Lib.hid (fun (wx : World) (Fx : HL) (hx : Holds wx Fx) => tdover_any a b d wx Fx hx)
    have HO2 := Lib.hid (fun (wx : World) => r22over_any a b d wx)
    have HPL : Hid ((pickU many f zs).length ≤ zs.length) := Lib.hid (by
      have h := onceU_len zs
      by_cases h1 : many < 1
      · unfold pickU; rw [if_pos h1]; simp
      · rw [pickU_len _ _ _ (by omega)]; omega)
    have HRL := Lib.hid (runs_len (onceU zs) (onceU_inc zs) hu.once)
    have hls := onceU_len zs
    generalize hn : zs.length = n at *
    have HN := Lib.hid hn
    clear hn
    go_enter Try.func3, Try.ntmps3
    go_wp2_with (at_builtin; refine wpList_append_T tWs (by rfl) (.const (.slice none 0 0)) (.tmp 23) (by rfl) (by rfl) (by rfl) (IsRow.nil _ _) (show Holds w (([] : HL) ++ allOf w) from hH) (show ReadsAt w 1 (.slice A n c) n (zs.map (Value.int .u64)) by have h := HV.out w hH; unfold WsAt at h; (try rw [HN.out] at h); exact h) HZ1.out (by unfold maxLen; omega) (by omega) ?_; intro A1 c1 w1 H1 hrow hH1 hg1)
    have HW1 : Hid (IsWs (.slice A1 n c1) zs H1) := Lib.hid (by unfold IsWs; rw [HN.out]; rw [Nat.zero_add] at hrow; exact hrow)
    clear hrow
    have HQ := Lib.hid (HP.out w1 _ hH1.right hH1)
    clear HP
    go_wp2_with fail
    refine HQ.out.mono ?_
    rintro e w2 ⟨v2, H2, rfl, h2, hH2, hg2⟩
    clear HQ
    have HW2 := Lib.hid h2
    obtain ⟨A2, c2, rfl⟩ := h2.val
    clear h2
    have HQ := Lib.hid (HR.out w2 _ hH2.right.right hH2)
    clear HR
    go_wp2_with fail
    refine HQ.out.mono ?_
    rintro e w3 ⟨v3, H3, rfl, h3, hH3, hg3⟩
    clear HQ
    have HW3 := Lib.hid h3
    obtain ⟨A3, c3, rfl⟩ := h3.val
    clear h3
    have HQ := Lib.hid (HRR.out w3 _ (fun wy hy => hy.right.right.right) hH3)
    clear HRR
    go_wp2_with fail
    refine HQ.out.mono ?_
    rintro e w4 ⟨v4, H4, rfl, h4, hH4, hg4⟩
    clear HQ
    have HW4 := Lib.hid h4
    obtain ⟨A4, c4, rfl⟩ := h4.val
    clear h4
    have HQ := Lib.hid (HRP.out w4 _ (fun wy hy => hy.right.right.right.right) hH4)
    clear HRP
    go_wp2_with fail
    refine HQ.out.mono ?_
    rintro e w5 ⟨v5, H5, rfl, h5, hH5, hg5⟩
    clear HQ
    have hr5 := h5.at_ hH5
    obtain ⟨A5, c5, rfl⟩ := h5.val
    clear h5
    have HSM := Lib.hid (same64_any _ _ _ _ w5 (HW2.out.at_ hH5.right.right.right) hr5)
    rw [decide_eq_true rfl] at HSM
    clear hr5
    have HG5 := Lib.hid ((((hg1.trans hg2).trans hg3).trans hg4).trans hg5)
    clear hg1 hg2 hg3 hg4 hg5
    generalize pickU many f zs = ps at *
    have hrl : (runsU (onceU zs)).length ≤ 60 := by have := HRL.out; omega
    clear HRL
    generalize runsU (onceU zs) = rs at *
    go_wp2_with fail
    refine HSM.out.mono ?_
    rintro e w6 ⟨rfl, q, rfl⟩
    clear HSM
    have hH6 := hH5.drewN q
    have HG6 := Lib.hid (HG5.out.drewN q)
    clear HG5 hH5 hH4 hH3 hH2 hH1
    generalize w5.drewN q = w6 at *
    have HQ := Lib.hid (HO1.out w6 _ hH6)
    clear HO1
    generalize overB a b d = ob at *
    go_wp2_with fail
    refine HQ.out.mono ?_
    rintro e w7 ⟨rfl, hH7, hg7⟩
    clear HQ
    have HG7 := Lib.hid (HG6.out.trans hg7)
    clear HG6 hg7 hH6
    have hob : (ob == ob) = true := by simp
    go_wp2_with fail
    refine (HO2.out w7).mono ?_
    rintro e w8 ⟨rfl, rfl⟩
    clear HO2
    have HQ := Lib.hid (HB1.out w7 hH7.right.right.right.right.right)
    have HQ2 := Lib.hid (HB2.out w7 hH7.right.right.right.right.right)
    clear HB1 HB2
    generalize behindU f zs = bu at *
    have hbu : (bu == bu) = true := by simp
    go_wp2_with fail
    refine HQ.out.mono ?_
    rintro e w8 ⟨rfl, rfl⟩
    go_wp2_with fail
    refine HQ2.out.mono ?_
    rintro e w8 ⟨rfl, rfl⟩
    clear HQ HQ2
    go_wp2_with fail
    go_loopw [17, 18] (fun ok i wr => TellTo rs.length w7 ok i wr) (fun _ i _ => rs.length - (intOf i).toNat)
    case atStart => exact ⟨0, 0, by omega, rfl, rfl, rfl⟩
    case round =>
      obtain ⟨k, m, hk, rfl, rfl, rfl⟩ := hrel
      by_cases hlt : k < rs.length
      · obtain ⟨_, ⟨_, h0, _⟩ | ⟨g3, cap3, cur3, fz3, hv, hn, hc, hs, ht, hf, rfl⟩⟩ := HW3.out
        · omega
        injection hv with hv1 hv2 hv3
        subst hv1; subst hv3
        have hcs := cells_runs rfl ht hlt
        clear hn hc hs ht hf hv2
        obtain ⟨_, ⟨_, h0, _⟩ | ⟨g4, cap4, cur4, fz4, hv, hn, hc, hs, ht, hf, rfl⟩⟩ := HW4.out
        · omega
        injection hv with hv1 hv2 hv3
        subst hv1; subst hv3
        have hcs2 := cells_runs rfl ht hlt
        clear hn hc hs ht hf hv2
        have c0 : w7.cell? ⟨g3, k * 2, none⟩ = some (.int .u64 rs[k].1) := (hH7.right.right.hcell _).trans hcs.1
        have c1 : w7.cell? ⟨g3, k * 2 + 1, none⟩ = some (.int .i64 rs[k].2) := (hH7.right.right.hcell _).trans hcs.2
        have d0 : w7.cell? ⟨g4, k * 2, none⟩ = some (.int .u64 rs[k].1) := (hH7.right.hcell _).trans hcs2.1
        have d1 : w7.cell? ⟨g4, k * 2 + 1, none⟩ = some (.int .i64 rs[k].2) := (hH7.right.hcell _).trans hcs2.2
        clear hcs hcs2
        generalize rs[k] = rk at *
        obtain ⟨x1, x2⟩ := rk
        simp only at c0 c1 d0 d1
        have e1 : (x1 == x1) = true := by simp
        have e2 : (x2 == x2) = true := by simp
        go_upto_region 10 with fail
        refine Z_begin (fun wx => wx.cell? ⟨g3, k * 2, none⟩ = some (.int .u64 x1) ∧ wx.cell? ⟨g3, k * 2 + 1, none⟩ = some (.int .i64 x2) ∧ wx.cell? ⟨g4, k * 2, none⟩ = some (.int .u64 x1) ∧ wx.cell? ⟨g4, k * 2 + 1, none⟩ = some (.int .i64 x2)) 25 (by kernel_rfl) (fun w1 hd => by obtain ⟨q, rfl⟩ := hd; exact ⟨c0, c1, d0, d1⟩) (fun w1 hd hs => ?_)
        obtain ⟨nq, rfl⟩ := hd
        refine Z_takeD 0 (some 75) (v := ?_) rfl rfl (by kernel_rfl) (fun _ _ _ h => h) (by rfl) hs ?_ ?_
        rotate_left
        · intro wx hx; obtain ⟨s1, s2, s3, s4⟩ := hx; go_simp; try with_reducible rfl
        simp only [Act.put, List.setIfInBounds_toArray, List.set_cons_succ, List.set_cons_zero]
        refine Z_takeD 1 (some 76) (v := ?_) rfl rfl (by kernel_rfl) (fun _ _ _ h => h) (by rfl) hs ?_ ?_
        rotate_left
        · intro wx hx; obtain ⟨s1, s2, s3, s4⟩ := hx; go_simp; try with_reducible rfl
        simp only [Act.put, List.setIfInBounds_toArray, List.set_cons_succ, List.set_cons_zero]
        refine Z_takeD 2 (some 77) (v := ?_) rfl rfl (by kernel_rfl) (fun _ _ _ h => h) (by rfl) hs ?_ ?_
        rotate_left
        · intro wx hx; obtain ⟨s1, s2, s3, s4⟩ := hx; go_simp; try with_reducible rfl
        simp only [Act.put, List.setIfInBounds_toArray, List.set_cons_succ, List.set_cons_zero]
        refine Z_takeD 3 (some 78) (v := ?_) rfl rfl (by kernel_rfl) (fun _ _ _ h => h) (by rfl) hs ?_ ?_
        rotate_left
        · intro wx hx; obtain ⟨s1, s2, s3, s4⟩ := hx; go_simp; try with_reducible rfl
        simp only [Act.put, List.setIfInBounds_toArray, List.set_cons_succ, List.set_cons_zero]
        refine Z_takeD 4 (some 79) (v := ?_) rfl rfl (by kernel_rfl) (fun _ _ _ h => h) (by rfl) hs ?_ ?_
        rotate_left
        · intro wx hx; obtain ⟨s1, s2, s3, s4⟩ := hx; go_simp; try with_reducible rfl
        simp only [Act.put, List.setIfInBounds_toArray, List.set_cons_succ, List.set_cons_zero]
        refine Z_takeD 5 (some 80) (v := ?_) rfl rfl (by kernel_rfl) (fun _ _ _ h => h) (by rfl) hs ?_ ?_
        rotate_left
        · intro wx hx; obtain ⟨s1, s2, s3, s4⟩ := hx; go_simp; try with_reducible rfl
        simp only [Act.put, List.setIfInBounds_toArray, List.set_cons_succ, List.set_cons_zero]
        refine Z_takeD 6 (some 81) (v := ?_) rfl rfl (by kernel_rfl) (fun _ _ _ h => h) (by rfl) hs ?_ ?_
        rotate_left
        · intro wx hx; obtain ⟨s1, s2, s3, s4⟩ := hx; go_simp; try with_reducible rfl
        simp only [Act.put, List.setIfInBounds_toArray, List.set_cons_succ, List.set_cons_zero]
        refine Z_takeD 7 (some 82) (v := ?_) rfl rfl (by kernel_rfl) (fun _ _ _ h => h) (by rfl) hs ?_ ?_
        rotate_left
        · intro wx hx; obtain ⟨s1, s2, s3, s4⟩ := hx; go_simp; try with_reducible rfl
        simp only [Act.put, List.setIfInBounds_toArray, List.set_cons_succ, List.set_cons_zero]
        refine Z_takeD 8 (some 83) (v := ?_) rfl rfl (by kernel_rfl) (fun _ _ _ h => h) (by rfl) hs ?_ ?_
        rotate_left
        · intro wx hx; obtain ⟨s1, s2, s3, s4⟩ := hx; go_simp; try with_reducible rfl
        simp only [Act.put, List.setIfInBounds_toArray, List.set_cons_succ, List.set_cons_zero]
        refine Z_takeD 9 (some 84) (v := ?_) rfl rfl (by kernel_rfl) (fun _ _ _ h => h) (by rfl) hs ?_ ?_
        rotate_left
        · intro wx hx; obtain ⟨s1, s2, s3, s4⟩ := hx; go_simp; try with_reducible rfl
        simp only [Act.put, List.setIfInBounds_toArray, List.set_cons_succ, List.set_cons_zero]
        refine Z_takeD 10 (some 85) (v := ?_) rfl rfl (by kernel_rfl) (fun _ _ _ h => h) (by rfl) hs ?_ ?_
        rotate_left
        · intro wx hx; obtain ⟨s1, s2, s3, s4⟩ := hx; go_simp; try with_reducible rfl
        simp only [Act.put, List.setIfInBounds_toArray, List.set_cons_succ, List.set_cons_zero]
        refine Z_takeD 11 (some 86) (v := ?_) rfl rfl (by kernel_rfl) (fun _ _ _ h => h) (by rfl) hs ?_ ?_
        rotate_left
        · intro wx hx; obtain ⟨s1, s2, s3, s4⟩ := hx; go_simp; try with_reducible rfl
        simp only [Act.put, List.setIfInBounds_toArray, List.set_cons_succ, List.set_cons_zero]
        refine Z_takeD 12 (some 87) (v := ?_) rfl rfl (by kernel_rfl) (fun _ _ _ h => h) (by rfl) hs ?_ ?_
        rotate_left
        · intro wx hx; obtain ⟨s1, s2, s3, s4⟩ := hx; go_simp; try with_reducible rfl
        simp only [Act.put, List.setIfInBounds_toArray, List.set_cons_succ, List.set_cons_zero]
        refine Z_takeD 13 (some 88) (v := ?_) rfl rfl (by kernel_rfl) (fun _ _ _ h => h) (by rfl) hs ?_ ?_
        rotate_left
        · intro wx hx; obtain ⟨s1, s2, s3, s4⟩ := hx; go_simp; try with_reducible rfl
        simp only [Act.put, List.setIfInBounds_toArray, List.set_cons_succ, List.set_cons_zero]
        refine Z_takeD 14 (some 89) (v := ?_) rfl rfl (by kernel_rfl) (fun _ _ _ h => h) (by rfl) hs ?_ ?_
        rotate_left
        · intro wx hx; obtain ⟨s1, s2, s3, s4⟩ := hx; go_simp; try with_reducible rfl
        simp only [Act.put, List.setIfInBounds_toArray, List.set_cons_succ, List.set_cons_zero]
        refine Z_takeD 15 (some 90) (v := ?_) rfl rfl (by kernel_rfl) (fun _ _ _ h => h) (by rfl) hs ?_ ?_
        rotate_left
        · intro wx hx; obtain ⟨s1, s2, s3, s4⟩ := hx; go_simp; try with_reducible rfl
        simp only [Act.put, List.setIfInBounds_toArray, List.set_cons_succ, List.set_cons_zero]
        refine Z_takeD 16 (some 91) (v := ?_) rfl rfl (by kernel_rfl) (fun _ _ _ h => h) (by rfl) hs ?_ ?_
        rotate_left
        · intro wx hx; obtain ⟨s1, s2, s3, s4⟩ := hx; go_simp; try with_reducible rfl
        simp only [Act.put, List.setIfInBounds_toArray, List.set_cons_succ, List.set_cons_zero]
        refine Z_takeD 17 (some 92) (v := ?_) rfl rfl (by kernel_rfl) (fun _ _ _ h => h) (by rfl) hs ?_ ?_
        rotate_left
        · intro wx hx; obtain ⟨s1, s2, s3, s4⟩ := hx; go_simp; try with_reducible rfl
        simp only [Act.put, List.setIfInBounds_toArray, List.set_cons_succ, List.set_cons_zero]
        refine Z_takeD 18 (some 93) (v := ?_) rfl rfl (by kernel_rfl) (fun _ _ _ h => h) (by rfl) hs ?_ ?_
        rotate_left
        · intro wx hx; obtain ⟨s1, s2, s3, s4⟩ := hx; go_simp; try with_reducible rfl
        simp only [Act.put, List.setIfInBounds_toArray, List.set_cons_succ, List.set_cons_zero]
        refine Z_takeD 19 (some 94) (v := ?_) rfl rfl (by kernel_rfl) (fun _ _ _ h => h) (by rfl) hs ?_ ?_
        rotate_left
        · intro wx hx; obtain ⟨s1, s2, s3, s4⟩ := hx; go_simp; try with_reducible rfl
        simp only [Act.put, List.setIfInBounds_toArray, List.set_cons_succ, List.set_cons_zero]
        refine Z_takeD 20 (some 95) (v := ?_) rfl rfl (by kernel_rfl) (fun _ _ _ h => h) (by rfl) hs ?_ ?_
        rotate_left
        · intro wx hx; obtain ⟨s1, s2, s3, s4⟩ := hx; go_simp; try with_reducible rfl
        simp only [Act.put, List.setIfInBounds_toArray, List.set_cons_succ, List.set_cons_zero]
        refine Z_takeD 21 (some 96) (v := ?_) rfl rfl (by kernel_rfl) (fun _ _ _ h => h) (by rfl) hs ?_ ?_
        rotate_left
        · intro wx hx; obtain ⟨s1, s2, s3, s4⟩ := hx; go_simp; try with_reducible rfl
        simp only [Act.put, List.setIfInBounds_toArray, List.set_cons_succ, List.set_cons_zero]
        refine Z_takeD 22 (some 97) (v := ?_) rfl rfl (by kernel_rfl) (fun _ _ _ h => h) (by rfl) hs ?_ ?_
        rotate_left
        · intro wx hx; obtain ⟨s1, s2, s3, s4⟩ := hx; go_simp; try with_reducible rfl
        simp only [Act.put, List.setIfInBounds_toArray, List.set_cons_succ, List.set_cons_zero]
        refine Z_takeD 23 (some 98) (v := ?_) rfl rfl (by kernel_rfl) (fun _ _ _ h => h) (by rfl) hs ?_ ?_
        rotate_left
        · intro wx hx; obtain ⟨s1, s2, s3, s4⟩ := hx; go_simp; try with_reducible rfl
        simp only [Act.put, List.setIfInBounds_toArray, List.set_cons_succ, List.set_cons_zero]
        refine Z_takeD 24 (some 17) (v := ?_) rfl rfl (by kernel_rfl) (fun _ _ _ h => h) (by rfl) hs ?_ ?_
        rotate_left
        · intro wx hx; obtain ⟨s1, s2, s3, s4⟩ := hx; go_simp; try with_reducible rfl
        simp only [Act.put, List.setIfInBounds_toArray, List.set_cons_succ, List.set_cons_zero]
        refine Z_done (by kernel_rfl) ?_ _
        go_wp2_with fail
        go_roundw
        case rel => exact ⟨k + 1, m + nq, by omega, by go_num, rfl, by first | rfl | exact drewN2 _ _ _⟩
        case measure => simp [intOf]; omega
      · have hkl : k = rs.length := by omega
        subst hkl
        have hHm := hH7.drewN m
        have HGm := Lib.hid (HG7.out.drewN m)
        clear hH7 HG7
        generalize w7.drewN m = w8 at *
        have HQ := Lib.hid (over64_any _ ps H2 _ w8 HW2.out (show Holds w8 (H2 ++ (H5 ++ (H4 ++ (H3 ++ (H1 ++ allOf w))))) from hHm.sub (by (repeat' (first | refine sub_append ?_ ?_ | refine sub_cons ?_ ?_ | exact sub_nil)); all_goals first | (intro p hp; simp only [List.mem_append, List.mem_cons, hp, true_or, or_true]) | simp only [List.mem_append, List.mem_cons, true_or, or_true]) (fun b => by simp only [keyc_append, keyc_cons, keyc_nil]; omega)) (by have := HPL.out; omega))
        go_wp2_with fail
        refine HQ.out.mono ?_
        rintro e w9 ⟨rfl, hH9, hg9⟩
        clear HQ
        have HSM := Lib.hid (same64_any (.slice A n c) _ zs zs w9 (by have h := HV.out w9 hH9.right.right.right.right; unfold WsAt; rw [HN.out]; exact h) (HW1.out.at_ hH9.right.right.right))
        rw [decide_eq_true rfl] at HSM
        go_wp2_with fail
        refine HSM.out.mono ?_
        rintro e w10 ⟨rfl, q2, rfl⟩
        clear HSM
        have HAW := Lib.hid (awake22_any (w9.drewN q2) _ (hH9.right.right.right.right.drewN q2))
        go_wp2_with fail
        refine HAW.out.mono ?_
        rintro e w10 ⟨rfl, hH10, hg10⟩
        go_wp2_with fail
        go_ret
        exact ⟨rfl, hH10, ((HGm.out.trans hg9).drewN q2).trans hg10⟩
end Go.Proofs.Ytdbcmjambajffaa
