/-
  Chapter 16: StoreNone.
-/
import Derived.Test.YtoelopghilbfeaaGreatL16
namespace Go.Proofs.YtoelopghilbfeaaGreat
open Go.RowKit
set_option linter.unusedSimpArgs false
set_option linter.unusedVariables false

theorem nnew_small (w : World) (Fr : HL) (hH : Holds w Fr) : Calls Tryz.prog 12 #[.agg #[.int .i64 2, .int .i64 2, .int .i64 128], .slice none 0 0, .slice none 0 0] w (RetNew (fun v H => IsChip v (CM.new 2 2 128 [] []) H) w Fr) :=
  nnew_good 2 2 128 (.slice none 0 0) (.slice none 0 0) [] [] w Fr hH (ints_nil Fr) (ms_nil Fr) (fun wx F hx => (may_none wx).mono fun e w' ⟨h1, h2⟩ => ⟨h1, h2 ▸ hx, h2 ▸ Grew.refl wx⟩) (by omega) (by omega) (by omega) (by omega) (by omega) (by omega) (by simp) (by simp) (by simp)
set_option maxRecDepth 100000 in
set_option maxHeartbeats 4000000 in
theorem none16_walk (p b : Int) (W : World) : Calls Tryz.prog 9 #[.int .i64 p, .int .i64 b] W (RetFr (.bool true) W (allOf W)) := by
  have hH := holds_all W
  have k1 := err_eq
  have k2 := nil_eq
  have k3 := err_ne
  have k4 := nil_ne
  have HPU := Lib.hid (put_nil W (allOf W) ⟨1, 0, 1, 0⟩ (.slice none 0 0) hH)
  clear hH
  go_enter Tryz.func9, Tryz.ntmps9
  go_wp2_with fail
  refine HPU.out.mono ?_
  rintro e w1 ⟨ve1, He1, rfl, he1, hH1, hg1⟩
  obtain ⟨b1, s1, rfl, _⟩ := isErrP8 he1 (show (1 : Int) ≠ 0 by decide)
  have HE1 := Lib.hid he1
  have HGT := Lib.hid (get_nil p w1 _ hH1)
  clear he1 hH1 HPU
  go_wp2_with fail
  refine HGT.out.mono ?_
  rintro e w2 ⟨ve2, He2, rfl, he2, hH2, hg2⟩
  obtain ⟨b2, s2, rfl, _⟩ := isErrP8 he2 (show (1 : Int) ≠ 0 by decide)
  have HE2 := Lib.hid he2
  have hG2 := hg1.trans hg2
  have hz : Hd.zero.agg = .agg #[.int .i64 0, .int .u64 0, .int .i64 0, .int .i64 0] := rfl
  rw [hz]
  have hH3 := hH2.alloc (.cells #[.int .i64 0, .int .u64 0, .int .i64 0, .int .i64 0] 37)
  have hG3 := hG2.alloc (.cells #[.int .i64 0, .int .u64 0, .int .i64 0, .int .i64 0] 37)
  clear he2 hH2 hg1 hg2 HGT hG2
  go_upto_region 4 with fail
  generalize w2.alloc (.cells #[.int .i64 0, .int .u64 0, .int .i64 0, .int .i64 0] 37) = w3 at *
  generalize w2.heap.size = g2 at *
  have HHD := Lib.hid (head_nil p w3 _ hH3)
  rw [hz] at HHD
  clear hH3
  go_wp2_with fail
  refine HHD.out.mono ?_
  rintro e w4 ⟨rfl, hH4, hg4⟩
  have hH5 := hH4.alloc (.cells #[.int .i64 0, .int .u64 0, .int .i64 0, .int .i64 0] 37)
  have hG5 := (hG3.trans hg4).alloc (.cells #[.int .i64 0, .int .u64 0, .int .i64 0, .int .i64 0] 37)
  clear hH4 hg4 hG3 HHD
  go_upto_region 5 with fail
  generalize w4.alloc (.cells #[.int .i64 0, .int .u64 0, .int .i64 0, .int .i64 0] 37) = w5 at *
  generalize w4.heap.size = g3 at *
  have HNW := Lib.hid (nnew_small w5 _ hH5)
  clear hH5
  go_wp2_with fail
  refine HNW.out.mono ?_
  rintro e w6 ⟨dv, H6, rfl, ⟨cb, g, cap, mv, rfl, hc6⟩, hH6, hg6⟩
  have HNB := Lib.hid (new_bad hc6 hH6 (by kernel_rfl))
  have hG6 := hG5.trans hg6
  clear hc6 hH6 hg6 hG5 HNW
  go_wp2_with fail
  refine HNB.out.mono ?_
  rintro e w7 ⟨ve7, He7, rfl, he7, hH7, hg7⟩
  obtain ⟨b7, s7, rfl, _⟩ := isErrP8 he7 (show (2 : Int) ≠ 0 by decide)
  have HE7 := Lib.hid he7
  have hG7 := hG6.trans hg7
  clear he7 hg7 hG6 HNB
  have hH8 : Holds w7 (He1 ++ (He2 ++ (He7 ++ allOf W))) := by
    have : Holds w7 (He7 ++ (H6 ++ ([(g3, .cells #[.int .i64 0, .int .u64 0, .int .i64 0, .int .i64 0] 37)] ++ ([(g2, .cells #[.int .i64 0, .int .u64 0, .int .i64 0, .int .i64 0] 37)] ++ (He2 ++ (He1 ++ allOf W)))))) := hH7
    exact this.sub (by (repeat' (first | refine sub_append ?_ ?_ | refine sub_cons ?_ ?_ | exact sub_nil)); all_goals first | (intro p hp; simp only [List.mem_append, List.mem_cons, hp, true_or, or_true]) | simp only [List.mem_append, List.mem_cons, true_or, or_true]) (fun b => by simp only [keyc_append, keyc_cons, keyc_nil]; omega)
  clear hH7
  go_wp2_with fail
  refine (num_any _ 1 He1 _ w7 HE1.out hH8 (by omega)).mono ?_
  rintro e wx ⟨rfl, rfl⟩
  have hH9 : Holds w7 (He2 ++ (He7 ++ allOf W)) := hH8.right
  clear hH8
  go_wp2_with fail
  refine (num_any _ 1 He2 _ w7 HE2.out hH9 (by omega)).mono ?_
  rintro e wx ⟨rfl, rfl⟩
  have HDR := Lib.hid (drop_nil p w7 _ hH9)
  clear hH9
  go_wp2_with fail
  refine HDR.out.mono ?_
  rintro e w8 ⟨ve8, He8, rfl, he8, hH8, hg8⟩
  have hG8 := hG7.trans hg8
  have HNM := Lib.hid (num_any _ 1 He8 _ w8 he8 hH8 (by omega))
  have hH9 : Holds w8 (He7 ++ allOf W) := hH8.right.right
  have HND := Lib.hid (needed_nil w8)
  have HBK := Lib.hid (block_nil b w8)
  have HSL := Lib.hid (sealed_nil w8)
  have HRM := Lib.hid (room_nil w8)
  have HBD := Lib.hid (bad_nil w8 _ hH9)
  obtain ⟨b8, s8, rfl, _⟩ := isErrP8 he8 (show (1 : Int) ≠ 0 by decide)
  clear he8 hH8 hg8 hG7 HDR hH9
  go_wp2_with fail
  refine HNM.out.mono ?_
  rintro e wx ⟨rfl, rfl⟩
  go_wp2_with fail
  refine HND.out.mono ?_
  rintro e wx ⟨rfl, rfl⟩
  go_wp2_with fail
  refine HBK.out.mono ?_
  rintro e wx ⟨rfl, rfl⟩
  go_wp2_with fail
  refine HSL.out.mono ?_
  rintro e wx ⟨rfl, rfl⟩
  go_wp2_with fail
  refine HRM.out.mono ?_
  rintro e wx ⟨rfl, rfl⟩
  go_wp2_with fail
  refine HBD.out.mono ?_
  rintro e w9 ⟨rfl, hH9, hg9⟩
  have hG9 := hG8.trans hg9
  have HCP := Lib.hid (stchip_nil w9)
  have HN2 := Lib.hid (num_any _ 2 He7 _ w9 HE7.out hH9 (by omega))
  have HAW := Lib.hid (awake16_any w9 (allOf W) hH9.right)
  clear hg9 hG8 hH9 HBD HNM HND HBK HSL HRM
  go_wp2_with fail
  refine HCP.out.mono ?_
  rintro e wx ⟨rfl, rfl⟩
  go_wp2_with fail
  refine HN2.out.mono ?_
  rintro e wx ⟨rfl, rfl⟩
  go_wp2_with fail
  refine HAW.out.mono ?_
  rintro e wy ⟨rfl, hHy, hgy⟩
  have hGy := hG9.trans hgy
  clear HCP HN2 HAW hgy hG9
  go_wp2_with fail
  go_ret
  exact ⟨rfl, hHy, hGy⟩
end Go.Proofs.YtoelopghilbfeaaGreat
