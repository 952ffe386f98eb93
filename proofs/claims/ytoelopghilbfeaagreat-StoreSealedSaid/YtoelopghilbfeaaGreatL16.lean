/-
  Chapter 16: what every program answers that is one.
-/
import Derived.Test.YtoelopghilbfeaaGreatL16A
import Derived.Test.YtoelopghilbfeaaGreatL16P
import Derived.LaidEqlPtr
namespace Go.Proofs.YtoelopghilbfeaaGreat
open Go.RowKit
set_option linter.unusedSimpArgs false
set_option linter.unusedVariables false

theorem chip_same (a : Addr) (w : World) : (binOp .eql 23 (.pointer (some a)) (.pointer (some a))).run Tryz.prog w = .ok (.bool true) w := by
  obtain ⟨j, hj⟩ := Option.isSome_iff_exists.1 (show (Tryz.prog.info? 84).isSome = true by kernel_rfl)
  exact run_eql_ptr_same w a (te := 84) (by kernel_rfl) hj
theorem ints_nil (Fr : HL) : IsInts (.slice none 0 0) [] Fr := fun w _ => ⟨rfl, none, 0, rfl, Nat.le_refl _, by simp [maxLen], fun h => absurd h (by simp)⟩
theorem ms_nil (Fr : HL) : FrMs Fr (.slice none 0 0) [] := fun w _ => ⟨rfl, none, 0, rfl, Nat.le_refl _, by simp [maxLen], fun h => absurd h (by simp)⟩
theorem nnew_plain (w : World) (Fr : HL) (hH : Holds w Fr) : Calls Tryz.prog 12 #[.agg #[.int .i64 16, .int .i64 4, .int .i64 128], .slice none 0 0, .slice none 0 0] w (RetNew (fun v H => IsChip v awC H) w Fr) :=
  nnew_good 16 4 128 (.slice none 0 0) (.slice none 0 0) [] [] w Fr hH (ints_nil Fr) (ms_nil Fr) (fun wx F hx => (may_none wx).mono fun e w' ⟨h1, h2⟩ => ⟨h1, h2 ▸ hx, h2 ▸ Grew.refl wx⟩) (by omega) (by omega) (by omega) (by omega) (by omega) (by omega) (by simp) (by simp) (by simp)
theorem awS_yok : Yok awS.P awS.y := by
  intro x hx
  have : x = ⟨1, 0, List.replicate 4 (false, false)⟩ := List.eq_of_mem_replicate hx
  rw [this]
  exact ⟨rfl, Int.le_refl _⟩
set_option maxRecDepth 20000 in
theorem aw_plan : planB (awC.blocks.length : Int) awC.P awC.Z = true := by kernel_rfl
set_option maxRecDepth 100000 in
set_option maxHeartbeats 4000000 in
theorem awake16_any (w : World) (Fr : HL) (hH : Holds w Fr) : Calls Tryz.prog 20 #[] w (RetFr (.bool true) w Fr) := by
  have k1 := err_eq
  have k2 := nil_eq
  have k3 := err_ne
  have k4 := nil_ne
  have HGE := Lib.hid (l16geo_any w Fr hH)
  obtain ⟨s1, c1, c2, hf1, hf2, hf3, hf4, hf5, hf6, hf7, hf8⟩ := aw_facts
  have hDl := awD_len
  have HFL := Lib.hid (fun (w : World) (F : HL) (h : Holds w F) => show Calls Tryz.prog 16 #[.int .i64 3, .int .i64 128] w (RetNew (fun v H => IsBytes v awD H) w F) from fill_any 3 128 w F h (by decide))
  generalize awD = D at *
  have F1 := Lib.hid hf1
  have F2 := Lib.hid hf2
  have F3 := Lib.hid hf3
  have F4 := Lib.hid hf4
  have F5 := Lib.hid hf5
  have F6 := Lib.hid hf6
  have F7 := Lib.hid hf7
  have F8 := Lib.hid hf8
  have HDL := Lib.hid hDl
  clear hH hf1 hf2 hf3 hf4 hf5 hf6 hf7 hf8 hDl
  go_enter Tryz.func20, Tryz.ntmps20
  go_wp2_with fail
  refine HGE.out.mono ?_
  rintro e w1 ⟨rfl, hH1, hg1⟩
  have HN := Lib.hid (nnew_plain w1 Fr hH1)
  clear hH1 HGE
  go_wp2_with fail
  refine HN.out.mono ?_
  rintro e w2 ⟨dv, H0, rfl, ⟨cb, g, cap, mv, rfl, hc0⟩, hH2, hg2⟩
  have hG2 := hg1.trans hg2
  have HC0 := Lib.hid hc0
  have HNW := Lib.hid (new_any hc0 hH2 aw_plan rfl (by show (0 : Int) ≤ 999999998000; omega))
  rw [awN] at HNW
  clear hc0 hH2 hg1 hg2 HN
  go_wp2_with fail
  refine HNW.out.mono ?_
  rintro e w3 (⟨h0, sb, Hs, Hc, rfl, hs, hch, hH3, hg3⟩ | ⟨h0, _⟩)
  rotate_left
  · exact absurd rfl h0
  dsimp only at hs hch
  have hG3 := hG2.trans hg3
  have HS := Lib.hid hs
  have HCH := Lib.hid hch
  have HNN := Lib.hid (new_nil w3 _ hH3)
  clear h0 hs hch hH3 hg3 hG2 HNW HC0
  go_wp2_with fail
  refine HNN.out.mono ?_
  rintro e w4 ⟨ve4, He4, rfl, he4, hH4, hg4⟩
  have hG4 := hG3.trans hg4
  obtain ⟨b4, s4, rfl, _⟩ := isErrP8 he4 (show (1 : Int) ≠ 0 by decide)
  have HE4 := Lib.hid he4
  clear he4 hg4 hG3 HNN
  go_upto_region 7 with fail
  have hH5 := hH4.alloc (.cells #[.int .i64 1, .int .u64 7, .int .i64 1, .int .i64 0] 37)
  have hG5 := hG4.alloc (.cells #[.int .i64 1, .int .u64 7, .int .i64 1, .int .i64 0] 37)
  generalize w4.alloc (.cells #[.int .i64 1, .int .u64 7, .int .i64 1, .int .i64 0] 37) = w5 at *
  generalize w4.heap.size = gh at *
  have HSW := Lib.hid (fun (wx : World) (F : HL) (hX : Holds wx ((gh, .cells #[.int .i64 1, .int .u64 7, .int .i64 1, .int .i64 0] 37) :: F)) => show wx.cell? ⟨gh, 0, none⟩ = some (.int .i64 1) ∧ wx.cell? ⟨gh, 1, none⟩ = some (.int .u64 7) ∧ wx.cell? ⟨gh, 2, none⟩ = some (.int .i64 1) ∧ wx.cell? ⟨gh, 3, none⟩ = some (.int .i64 0) from ⟨hX.hcell 0, hX.hcell 1, hX.hcell 2, hX.hcell 3⟩)
  clear hH4 hG4
  refine Z_begin (fun wx => wx.cell? ⟨gh, 0, none⟩ = some (.int .i64 1) ∧ wx.cell? ⟨gh, 1, none⟩ = some (.int .u64 7) ∧ wx.cell? ⟨gh, 2, none⟩ = some (.int .i64 1) ∧ wx.cell? ⟨gh, 3, none⟩ = some (.int .i64 0)) 9 (by kernel_rfl) (fun w1 hd => HSW.out _ _ (hH5.dr hd)) (fun w1 hd hs => ?_)
  have hHc := hH5.dr hd; have hGc := hG5.trans (Grew.dr hd); clear hd hH5 hG5
  refine Z_takeD 0 (some 38) (v := ?_) rfl rfl (by kernel_rfl) (fun _ _ _ h => h) (by rfl) hs ?_ ?_
  rotate_left
  · intro wx hx; obtain ⟨s0, s1, s2, s3⟩ := hx; go_simp; try with_reducible rfl
  simp only [Act.put, List.setIfInBounds_toArray, List.set_cons_succ, List.set_cons_zero]
  refine Z_takeD 1 (some 39) (v := ?_) rfl rfl (by kernel_rfl) (fun _ _ _ h => h) (by rfl) hs ?_ ?_
  rotate_left
  · intro wx hx; obtain ⟨s0, s1, s2, s3⟩ := hx; go_simp; try with_reducible rfl
  simp only [Act.put, List.setIfInBounds_toArray, List.set_cons_succ, List.set_cons_zero]
  refine Z_mid 2 rfl (by kernel_rfl) (fun K hK => ?_)
  have ⟨s0, s1, s2, s3⟩ := hs
  go_simp; refine (HFL.out w1 _ hHc).mono ?_; rintro e w6 ⟨v6, H6, rfl, hb6, hH6, hg6⟩; have hG6 := hGc.trans hg6; have HB6 := Lib.hid hb6; obtain ⟨A6, q6, rfl⟩ := hb6.val; rw [HDL.out] at HB6 ⊢; have hH7 : Holds w6 ((gh, .cells #[.int .i64 1, .int .u64 7, .int .i64 1, .int .i64 0] 37) :: (Hs ++ (Hc ++ (H6 ++ (He4 ++ Fr))))) := hH6.sub (by (repeat' (first | refine sub_append ?_ ?_ | refine sub_cons ?_ ?_ | exact sub_nil)); all_goals first | (intro p hp; simp only [List.mem_append, List.mem_cons, hp, true_or, or_true]) | simp only [List.mem_append, List.mem_cons, true_or, or_true]) (fun b => by simp only [keyc_append, keyc_cons, keyc_nil]; omega); clear hb6 hHc hGc hg6 hH6   -- call w
  clear s0 s1 s2 s3
  refine hK _ _ (HSW.out _ _ hH7) (fun hs2 => ?_); clear hK K hs; have hs := hs2; clear hs2
  refine Z_mid 3 rfl (by kernel_rfl) (fun K hK => ?_)
  have ⟨s0, s1, s2, s3⟩ := hs
  have HPU := Lib.hid (put_any awH D (.slice A6 128 q6) HS.out HCH.out (Fr := (gh, .cells #[.int .i64 1, .int .u64 7, .int .i64 1, .int .i64 0] 37) :: (H6 ++ (He4 ++ Fr))) (hH7.sub (by (repeat' (first | refine sub_append ?_ ?_ | refine sub_cons ?_ ?_ | exact sub_nil)); all_goals first | (intro p hp; simp only [List.mem_append, List.mem_cons, hp, true_or, or_true]) | simp only [List.mem_append, List.mem_cons, true_or, or_true]) (fun b => by simp only [keyc_append, keyc_cons, keyc_nil]; omega)) awS_yok (by show 16 < 20; decide) (by show (0 : Int) ≤ 999999990000; omega) rfl rfl (fun wx hx => HB6.out.at_ (Fr := Hs ++ (Hc ++ ((gh, .cells #[.int .i64 1, .int .u64 7, .int .i64 1, .int .i64 0] 37) :: (He4 ++ Fr)))) (hx.sub (by (repeat' (first | refine sub_append ?_ ?_ | refine sub_cons ?_ ?_ | exact sub_nil)); all_goals first | (intro p hp; simp only [List.mem_append, List.mem_cons, hp, true_or, or_true]) | simp only [List.mem_append, List.mem_cons, true_or, or_true]) (fun b => by simp only [keyc_append, keyc_cons, keyc_nil]; omega))) ⟨by decide, by decide⟩); rw [F1.out] at HPU; go_simp; refine HPU.out.mono ?_; rintro e w8 ⟨ve8, He8, Hs8, Hc8, rfl, he8, hs8, hch8, hH8, hg8⟩; dsimp only at he8 hs8 hch8; obtain ⟨rfl, rfl⟩ := isErr0 he8; have HS8 := Lib.hid hs8; have HC8 := Lib.hid hch8; have hG8 := hG6.trans hg8; have hH9 : Holds w8 ((gh, .cells #[.int .i64 1, .int .u64 7, .int .i64 1, .int .i64 0] 37) :: (Hs8 ++ (Hc8 ++ (H6 ++ (He4 ++ Fr))))) := hH8.sub (by (repeat' (first | refine sub_append ?_ ?_ | refine sub_cons ?_ ?_ | exact sub_nil)); all_goals first | (intro p hp; simp only [List.mem_append, List.mem_cons, hp, true_or, or_true]) | simp only [List.mem_append, List.mem_cons, true_or, or_true]) (fun b => by simp only [keyc_append, keyc_cons, keyc_nil]; omega); clear he8 hs8 hch8 hH8 hg8 hG6 hH7 HPU   -- call w
  clear s0 s1 s2 s3
  refine hK _ _ (HSW.out _ _ hH9) (fun hs2 => ?_); clear hK K hs; have hs := hs2; clear hs2
  refine Z_takeD 4 (some 37) (v := ?_) rfl rfl (by kernel_rfl) (fun _ _ _ h => h) (by rfl) hs ?_ ?_
  rotate_left
  · intro wx hx; obtain ⟨s0, s1, s2, s3⟩ := hx; go_simp; try with_reducible rfl
  simp only [Act.put, List.setIfInBounds_toArray, List.set_cons_succ, List.set_cons_zero]
  refine Z_takeD 5 (some 42) (v := ?_) rfl rfl (by kernel_rfl) (fun _ _ _ h => h) (by rfl) hs ?_ ?_
  rotate_left
  · intro wx hx; obtain ⟨s0, s1, s2, s3⟩ := hx; go_simp; try with_reducible rfl
  simp only [Act.put, List.setIfInBounds_toArray, List.set_cons_succ, List.set_cons_zero]
  refine Z_takeD 6 (some 43) (v := ?_) rfl rfl (by kernel_rfl) (fun _ _ _ h => h) (by rfl) hs ?_ ?_
  rotate_left
  · intro wx hx; obtain ⟨s0, s1, s2, s3⟩ := hx; go_simp; try with_reducible rfl
  simp only [Act.put, List.setIfInBounds_toArray, List.set_cons_succ, List.set_cons_zero]
  refine Z_takeD 7 (some 7) (v := ?_) rfl rfl (by kernel_rfl) (fun _ _ _ h => h) (by rfl) hs ?_ ?_
  rotate_left
  · intro wx hx; obtain ⟨s0, s1, s2, s3⟩ := hx; go_simp; try with_reducible rfl
  simp only [Act.put, List.setIfInBounds_toArray, List.set_cons_succ, List.set_cons_zero]
  refine Z_takeD 8 (some 8) (v := ?_) rfl rfl (by kernel_rfl) (fun _ _ _ h => h) (by rfl) hs ?_ ?_
  rotate_left
  · intro wx hx; obtain ⟨s0, s1, s2, s3⟩ := hx; go_simp; try with_reducible rfl
  simp only [Act.put, List.setIfInBounds_toArray, List.set_cons_succ, List.set_cons_zero]
  refine Z_done (by kernel_rfl) ?_ _
  have hge := get_any (n := 0) HS8.out HC8.out (Fr := (gh, .cells #[.int .i64 1, .int .u64 7, .int .i64 1, .int .i64 0] 37) :: (H6 ++ (He4 ++ Fr))) (hH9.sub (by (repeat' (first | refine sub_append ?_ ?_ | refine sub_cons ?_ ?_ | exact sub_nil)); all_goals first | (intro p hp; simp only [List.mem_append, List.mem_cons, hp, true_or, or_true]) | simp only [List.mem_append, List.mem_cons, true_or, or_true]) (fun b => by simp only [keyc_append, keyc_cons, keyc_nil]; omega)) (by rw [F2.out]; decide)
  rw [F5.out] at hge
  have HGT := Lib.hid hge
  clear hge hs hH9
  go_wp2_with fail
  refine HGT.out.mono ?_
  rintro e w9 ⟨v9, Hv9, ve9, He9, Hc9, rfl, hb9, he9, hch9, hH9, hg9⟩
  dsimp only at hb9 he9 hch9
  obtain ⟨rfl, rfl⟩ := isErr0 he9
  have HC9 := Lib.hid hch9
  have HB9 := Lib.hid hb9
  obtain ⟨A9, q9, rfl⟩ := hb9.val
  rw [HDL.out] at HB9 ⊢
  have hG9 := hG8.trans hg9
  rw [show awH.agg = .agg #[.int .i64 1, .int .u64 7, .int .i64 1, .int .i64 0] from rfl]
  clear he9 hb9 hch9 hg9 hG8 HGT HC8
  go_upto_region 9 with fail
  have hHa := hH9.alloc (.cells #[.int .i64 1, .int .u64 7, .int .i64 1, .int .i64 0] 37)
  have hGa := hG9.alloc (.cells #[.int .i64 1, .int .u64 7, .int .i64 1, .int .i64 0] 37)
  generalize w9.alloc (.cells #[.int .i64 1, .int .u64 7, .int .i64 1, .int .i64 0] 37) = wa at *
  generalize w9.heap.size = gi at *
  have hge := get_any (n := 63) HS8.out HC9.out (w := wa) (Fr := (gi, .cells #[.int .i64 1, .int .u64 7, .int .i64 1, .int .i64 0] 37) :: (Hv9 ++ ((gh, .cells #[.int .i64 1, .int .u64 7, .int .i64 1, .int .i64 0] 37) :: (H6 ++ (He4 ++ Fr))))) (hHa.sub (by (repeat' (first | refine sub_append ?_ ?_ | refine sub_cons ?_ ?_ | exact sub_nil)); all_goals first | (intro p hp; simp only [List.mem_append, List.mem_cons, hp, true_or, or_true]) | simp only [List.mem_append, List.mem_cons, true_or, or_true]) (fun b => by simp only [keyc_append, keyc_cons, keyc_nil]; omega)) (by rw [F6.out]; decide)
  rw [F7.out] at hge
  have HGT := Lib.hid hge
  clear hge hH9 hG9 hHa
  go_wp2_with fail
  refine HGT.out.mono ?_
  rintro e wb ⟨vb, Hvb, veb, Heb, Hcb, rfl, hbb, heb, hchb, hHb, hgb⟩
  dsimp only at hbb heb hchb
  have HCb := Lib.hid hchb
  obtain ⟨Ab, qb, rfl⟩ := hbb.val
  obtain ⟨bb, sb2, rfl, _⟩ := isErrP8 heb (show (8 : Int) ≠ 0 by decide)
  have HEb := Lib.hid heb
  have hGb := hGa.trans hgb
  rw [show Hd.zero.agg = .agg #[.int .i64 0, .int .u64 0, .int .i64 0, .int .i64 0] from rfl]
  clear heb hbb hchb hgb hGa HGT HC9
  go_upto_region 10 with fail
  have hHd := hHb.alloc (.cells #[.int .i64 0, .int .u64 0, .int .i64 0, .int .i64 0] 37)
  have hGd := hGb.alloc (.cells #[.int .i64 0, .int .u64 0, .int .i64 0, .int .i64 0] 37)
  generalize wb.alloc (.cells #[.int .i64 0, .int .u64 0, .int .i64 0, .int .i64 0] 37) = wd at *
  generalize wb.heap.size = gk at *
  clear hHb hGb
  have hHe : Holds wd (He4 ++ ((gh, .cells #[.int .i64 1, .int .u64 7, .int .i64 1, .int .i64 0] 37) :: ((gi, .cells #[.int .i64 1, .int .u64 7, .int .i64 1, .int .i64 0] 37) :: (Hv9 ++ (Heb ++ (Hs8 ++ (Hcb ++ Fr))))))) := hHd.sub (by (repeat' (first | refine sub_append ?_ ?_ | refine sub_cons ?_ ?_ | exact sub_nil)); all_goals first | (intro p hp; simp only [List.mem_append, List.mem_cons, hp, true_or, or_true]) | simp only [List.mem_append, List.mem_cons, true_or, or_true]) (fun b => by simp only [keyc_append, keyc_cons, keyc_nil]; omega)
  clear hHd
  go_wp2_with fail
  refine (num_any _ 1 He4 _ wd HE4.out hHe (by omega)).mono ?_
  rintro e wx ⟨rfl, rfl⟩
  have HFF := Lib.hid (HFL.out wd _ hHe)
  clear hHe
  go_wp2_with fail
  refine HFF.out.mono ?_
  rintro e we ⟨vf, Hf, rfl, hbf, hHf, hgf⟩
  have hGf := hGd.trans hgf
  have HSM := Lib.hid (same_any (.slice A9 128 q9) vf D D we (HB9.out.at_ (Fr := Hf ++ (He4 ++ ((gh, .cells #[.int .i64 1, .int .u64 7, .int .i64 1, .int .i64 0] 37) :: ((gi, .cells #[.int .i64 1, .int .u64 7, .int .i64 1, .int .i64 0] 37) :: (Heb ++ (Hs8 ++ (Hcb ++ Fr))))))) (hHf.sub (by (repeat' (first | refine sub_append ?_ ?_ | refine sub_cons ?_ ?_ | exact sub_nil)); all_goals first | (intro p hp; simp only [List.mem_append, List.mem_cons, hp, true_or, or_true]) | simp only [List.mem_append, List.mem_cons, true_or, or_true]) (fun b => by simp only [keyc_append, keyc_cons, keyc_nil]; omega))) (hbf.at_ hHf))
  rw [decide_eq_true (rfl : D = D)] at HSM
  obtain ⟨Af, qf, rfl⟩ := hbf.val
  rw [HDL.out] at HSM ⊢
  have hHg : Holds we ((gh, .cells #[.int .i64 1, .int .u64 7, .int .i64 1, .int .i64 0] 37) :: ((gi, .cells #[.int .i64 1, .int .u64 7, .int .i64 1, .int .i64 0] 37) :: (Heb ++ (Hs8 ++ (Hcb ++ (Hf ++ (He4 ++ (Hv9 ++ Fr)))))))) := hHf.sub (by (repeat' (first | refine sub_append ?_ ?_ | refine sub_cons ?_ ?_ | exact sub_nil)); all_goals first | (intro p hp; simp only [List.mem_append, List.mem_cons, hp, true_or, or_true]) | simp only [List.mem_append, List.mem_cons, true_or, or_true]) (fun b => by simp only [keyc_append, keyc_cons, keyc_nil]; omega)
  clear hbf hHf hgf hGd HFF
  go_wp2_with fail
  refine HSM.out.mono ?_
  rintro e wg ⟨rfl, q, rfl⟩
  have hHh := hHg.drewN q
  have hGh := hGf.trans (Grew.dr ⟨q, rfl⟩)
  clear hHg hGf HSM
  generalize we.drewN q = wg at *
  have a0 := hHh.hcell 0
  have a1 := hHh.hcell 1
  have a2 := hHh.hcell 2
  have a3 := hHh.hcell 3
  have b0 := hHh.tail.hcell 0
  have b1 := hHh.tail.hcell 1
  have b2 := hHh.tail.hcell 2
  have b3 := hHh.tail.hcell 3
  simp only [List.getElem?_toArray, List.getElem?_cons_zero, List.getElem?_cons_succ] at a0 a1 a2 a3 b0 b1 b2 b3
  have hHi : Holds wg (Heb ++ (Hs8 ++ (Hcb ++ (Hf ++ (He4 ++ (Hv9 ++ ((gh, .cells #[.int .i64 1, .int .u64 7, .int .i64 1, .int .i64 0] 37) :: ((gi, .cells #[.int .i64 1, .int .u64 7, .int .i64 1, .int .i64 0] 37) :: Fr)))))))) := hHh.sub (by (repeat' (first | refine sub_append ?_ ?_ | refine sub_cons ?_ ?_ | exact sub_nil)); all_goals first | (intro p hp; simp only [List.mem_append, List.mem_cons, hp, true_or, or_true]) | simp only [List.mem_append, List.mem_cons, true_or, or_true]) (fun b => by simp only [keyc_append, keyc_cons, keyc_nil]; omega)
  clear hHh
  go_wp2_with fail
  refine (num_any _ 8 Heb _ wg HEb.out hHi (by omega)).mono ?_
  rintro e wx ⟨rfl, rfl⟩
  have hrm := room_any HS8.out HCb.out (w := wg) (Fr := Hf ++ (He4 ++ (Hv9 ++ ((gh, .cells #[.int .i64 1, .int .u64 7, .int .i64 1, .int .i64 0] 37) :: ((gi, .cells #[.int .i64 1, .int .u64 7, .int .i64 1, .int .i64 0] 37) :: (Heb ++ Fr)))))) (hHi.sub (by (repeat' (first | refine sub_append ?_ ?_ | refine sub_cons ?_ ?_ | exact sub_nil)); all_goals first | (intro p hp; simp only [List.mem_append, List.mem_cons, hp, true_or, or_true]) | simp only [List.mem_append, List.mem_cons, true_or, or_true]) (fun b => by simp only [keyc_append, keyc_cons, keyc_nil]; omega)) F3.out
  rw [F8.out] at hrm
  have HRM := Lib.hid hrm
  clear hrm hHi a0 a1 a2 a3 b0 b1 b2 b3
  go_wp2_with fail
  refine HRM.out.mono ?_
  rintro e wh ⟨rfl, hHj, hgj⟩
  have hGj := hGh.trans hgj
  have HCP := Lib.hid (stchip_any HS8.out (w := wh) hHj)
  clear HRM hgj hGh
  go_wp2_with fail
  refine HCP.out.mono ?_
  rintro e wi ⟨rfl, rfl⟩
  have hHk : Holds wh Fr := hHj.right.right.right.right.right.tail.tail.right
  have k5 := chip_same
  clear hHj HCP
  go_wp2_with fail
  go_ret
  exact ⟨rfl, hHk, hGj⟩
end Go.Proofs.YtoelopghilbfeaaGreat
