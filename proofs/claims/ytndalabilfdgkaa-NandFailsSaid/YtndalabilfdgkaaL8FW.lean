/-
  NandFails: the walk.
-/
import Derived.Test.YtndalabilfdgkaaL8F
namespace Go.Proofs.Ytndalabilfdgkaa
open Go.RowKit
set_option linter.unusedSimpArgs false
set_option linter.unusedVariables false

set_option maxRecDepth 100000 in
set_option maxHeartbeats 8000000 in
theorem nfails_walk (b0 n by0 : Int) (w : World) :
    Calls Try.prog 6 #[.int .i64 b0, .int .i64 n, .int .i64 by0] w (RetFr (.bool true) w (allOf w)) := by
  have hH := holds_all w
  generalize allOf w = Fr at *
  have k1 := err_eq
  have k2 := nil_eq
  have k3 := err_ne
  have k4 := nil_ne
  have hp := low_bd b0 2 (by omega) (by omega)
  have hq := low_bd by0 400 (by omega) (by omega)
  go_enter Try.func6, Try.ntmps6
  go_wp2_with fail
  refine (low_any b0 2 _ (by omega) (by omega)).mono ?_
  rintro e wx ⟨rfl, rfl⟩
  obtain ⟨k, hk⟩ := Int.eq_ofNat_of_zero_le hp.1
  rw [hk] at hp ⊢
  clear hk
  have hk2 : k < 2 := by omega
  go_wp2_with fail
  refine (low_any by0 400 _ (by omega) (by omega)).mono ?_
  rintro e wx ⟨rfl, rfl⟩
  obtain ⟨by1, hby⟩ : ∃ j, j = lowI by0 400 := ⟨_, rfl⟩
  rw [← hby] at hq ⊢
  clear hby
  have HM := Lib.hid (show Mi.ok ⟨2, 1, by1, 0⟩ from ⟨show (1 : Int) ≤ 2 by decide, show (2 : Int) ≤ 1073741824 by decide, .inl rfl, hq.1, by show by1 ≤ 65536; omega⟩)
  have hHA := hH.alloc (.cells #[.int .i64 2, .int .i64 1, .int .i64 by1, .int .u8 0] 47)
  have hGA := (Grew.refl w).alloc (.cells #[.int .i64 2, .int .i64 1, .int .i64 by1, .int .u8 0] 47)
  have HF := Lib.hid (show FrMs ((w.heap.size, .cells #[.int .i64 2, .int .i64 1, .int .i64 by1, .int .u8 0] 47) :: Fr) (.slice (some ⟨w.heap.size, 0, none⟩) 1 1) [⟨2, 1, by1, 0⟩] from fun wx hx => IsRow.reads (ms_one w.heap.size ⟨2, 1, by1, 0⟩) (Fr := Fr) (by simpa [cellB] using hx))
  have HN := Lib.hid (nnew_good 2 4 128 (.slice none 0 0) (.slice (some ⟨w.heap.size, 0, none⟩) 1 1) [] [⟨2, 1, by1, 0⟩] _ _ hHA (fun wx hx => ⟨rfl, none, 0, rfl, Nat.le_refl _, by simp [maxLen], fun h => absurd h (by simp)⟩)
    HF.out (fun wx F hx => may_one _ _ wx _ (fun wy hy => HF.out wy hy.right) hx HM.out) (by omega) (by omega) (by omega) (by omega) (by omega) (by omega) (by simp) (by intro m hm; rw [List.mem_singleton.1 hm]; exact HM.out) (by simp))
  clear HF hHA
  go_wp2_with fail
  refine HN.out.mono ?_
  rintro e w1 ⟨dv, H0, rfl, ⟨b, g, cap, mv, rfl, hc0⟩, hH1, hg1⟩
  have HC0 := Lib.hid hc0
  have HD0 := Lib.hid (dst_new (P := 4) (M := ⟨2, 1, by1, 0⟩) hk2)
  have hG0 := hGA.trans hg1
  have hh0 : Holds w1 (H0 ++ ([(w.heap.size, .cells #[.int .i64 2, .int .i64 1, .int .i64 by1, .int .u8 0] 47)] ++ Fr)) := hH1.sub (by (repeat' (first | refine sub_append ?_ ?_ | refine sub_cons ?_ ?_ | exact sub_nil)); all_goals first | (intro p hp; simp only [List.mem_append, List.mem_cons, hp, true_or, or_true]) | simp only [List.mem_append, List.mem_cons, true_or, or_true]) (fun b => by simp only [keyc_append, keyc_cons, keyc_nil]; omega)
  clear hc0 HN hH hH1 hGA hg1
  obtain ⟨F0, hF0⟩ : ∃ F0 : HL, F0 = [(w.heap.size, .cells #[.int .i64 2, .int .i64 1, .int .i64 by1, .int .u8 0] 47)] := ⟨_, rfl⟩
  rw [← hF0] at hh0
  clear hF0
  obtain ⟨raw, hraw⟩ : ∃ raw, raw = fillL n 156 := ⟨_, rfl⟩
  have HRW := Lib.hid hraw.symm
  have HRL := Lib.hid (show raw.length = 156 by rw [hraw]; simp [fillL])
  clear hraw
  have hby155 : min by1.toNat (raw.length - 1) ≤ 155 := by have := HRL.out; omega
  go_wp2_with fail
  refine (fill_any n 156 _ _ hh0 (by omega)).mono ?_
  rintro e wf1 ⟨rv1, Hr1, rfl, hr1, hhf1, hgf1⟩
  rw [HRW.out] at hr1
  obtain ⟨Ar1, qr1, rfl⟩ := hr1.val
  rw [HRL.out] at hr1 ⊢
  have HR1 := Lib.hid hr1
  have hGf1 := hG0.trans hgf1
  have hhg1 : Holds wf1 (H0 ++ ((Hr1 ++ F0) ++ Fr)) := hhf1.sub (by (repeat' (first | refine sub_append ?_ ?_ | refine sub_cons ?_ ?_ | exact sub_nil)); all_goals first | (intro p hp; simp only [List.mem_append, List.mem_cons, hp, true_or, or_true]) | simp only [List.mem_append, List.mem_cons, true_or, or_true]) (fun b => by simp only [keyc_append, keyc_cons, keyc_nil]; omega)
  obtain ⟨Fg1, hFg1⟩ : ∃ F : HL, F = Hr1 ++ F0 := ⟨_, rfl⟩
  have HRF1 := Lib.hid (show FrBytes (Fg1 ++ Fr) (.slice Ar1 156 qr1) raw from fun wx hx => by rw [hFg1] at hx; exact HR1.out.at_ (Fr := F0 ++ Fr) (by simpa using hx))
  rw [← hFg1] at hhg1
  clear hr1 hhf1 hgf1 hh0 hG0 hFg1 HR1
  obtain ⟨c2, hce2, hD2⟩ := (HD0.out).progGood (p := 0) (by omega) raw (by show ¬ ((2 : Int) = _); omega) rfl rfl rfl
  have HD2 := Lib.hid (show DSt c2 4 k (fX1 raw) fX0 true _ _ ⟨2, 1, by1, 0⟩ from hD2)
  have hP2 := nprogram_full k _ 0 (.slice Ar1 156 qr1) raw HC0.out (Fr := Fg1 ++ Fr) (hhg1) ((HD0.out).opsLt (by omega)) (HD0.out).bX HRF1.out (by rw [(HD0.out).eZ]; exact HRL.out)
  rw [show ((0 : Nat) : Int) = 0 from rfl] at hce2
  rw [hce2] at hP2
  have HP2 := Lib.hid hP2
  clear hP2 hce2 hD2
  go_wp2_with fail
  refine HP2.out.mono ?_
  rintro e wp2 ⟨G2, ve2, H2, He2, rfl, he2, hc2, hhp2, hgp2⟩
  have HC2 := Lib.hid hc2
  have hGp2 := hGf1.trans hgp2
  obtain ⟨rfl, rfl⟩ := isErr0 he2
  have hhq2 : Holds wp2 (H2 ++ ((G2 ++ Fg1) ++ Fr)) := hhp2.sub (by (repeat' (first | refine sub_append ?_ ?_ | refine sub_cons ?_ ?_ | exact sub_nil)); all_goals first | (intro p hp; simp only [List.mem_append, List.mem_cons, hp, true_or, or_true]) | simp only [List.mem_append, List.mem_cons, true_or, or_true]) (fun b => by simp only [keyc_append, keyc_cons, keyc_nil]; omega)
  obtain ⟨Fp2, hFp2⟩ : ∃ F : HL, F = G2 ++ Fg1 := ⟨_, rfl⟩
  rw [← hFp2] at hhq2
  clear he2 hc2 hhp2 hgp2 hhg1 hGf1 hFp2 HP2
  go_wp2_with fail
  refine (fill_any n 156 _ _ hhq2 (by omega)).mono ?_
  rintro e wf3 ⟨rv3, Hr3, rfl, hr3, hhf3, hgf3⟩
  rw [HRW.out] at hr3
  obtain ⟨Ar3, qr3, rfl⟩ := hr3.val
  rw [HRL.out] at hr3 ⊢
  have HR3 := Lib.hid hr3
  have hGf3 := hGp2.trans hgf3
  have hhg3 : Holds wf3 (H2 ++ ((Hr3 ++ Fp2) ++ Fr)) := hhf3.sub (by (repeat' (first | refine sub_append ?_ ?_ | refine sub_cons ?_ ?_ | exact sub_nil)); all_goals first | (intro p hp; simp only [List.mem_append, List.mem_cons, hp, true_or, or_true]) | simp only [List.mem_append, List.mem_cons, true_or, or_true]) (fun b => by simp only [keyc_append, keyc_cons, keyc_nil]; omega)
  obtain ⟨Fg3, hFg3⟩ : ∃ F : HL, F = Hr3 ++ Fp2 := ⟨_, rfl⟩
  have HRF3 := Lib.hid (show FrBytes (Fg3 ++ Fr) (.slice Ar3 156 qr3) raw from fun wx hx => by rw [hFg3] at hx; exact HR3.out.at_ (Fr := Fp2 ++ Fr) (by simpa using hx))
  rw [← hFg3] at hhg3
  clear hr3 hhf3 hgf3 hhq2 hGp2 hFg3 HR3
  obtain ⟨c4, hce4, hD4⟩ := (HD2.out).progFails (p := 1) (by omega) raw rfl rfl rfl rfl rfl
  have HD4 := Lib.hid (show DSt c4 4 k (fX2 raw (min by1.toNat (raw.length - 1))) fX0 true _ _ ⟨2, 1, by1, 0⟩ from hD4)
  have hP4 := nprogram_full k _ 1 (.slice Ar3 156 qr3) raw HC2.out (Fr := Fg3 ++ Fr) (hhg3) ((HD2.out).opsLt (by omega)) (HD2.out).bX HRF3.out (by rw [(HD2.out).eZ]; exact HRL.out)
  rw [show ((1 : Nat) : Int) = 1 from rfl] at hce4
  rw [hce4] at hP4
  have HP4 := Lib.hid hP4
  clear hP4 hce4 hD4
  go_wp2_with fail
  refine HP4.out.mono ?_
  rintro e wp4 ⟨G4, ve4, H4, He4, rfl, he4, hc4, hhp4, hgp4⟩
  have HC4 := Lib.hid hc4
  have hGp4 := hGf3.trans hgp4
  obtain ⟨bb4, ss4, rfl, _⟩ := isErrP8 he4 (show (5 : Int) ≠ 0 by decide)
  have hhq4 : Holds wp4 (H4 ++ ((He4 ++ (G4 ++ Fg3)) ++ Fr)) := hhp4.sub (by (repeat' (first | refine sub_append ?_ ?_ | refine sub_cons ?_ ?_ | exact sub_nil)); all_goals first | (intro p hp; simp only [List.mem_append, List.mem_cons, hp, true_or, or_true]) | simp only [List.mem_append, List.mem_cons, true_or, or_true]) (fun b => by simp only [keyc_append, keyc_cons, keyc_nil]; omega)
  have HNM4 := Lib.hid (num_any _ 5 He4 (H4 ++ (G4 ++ (Fg3 ++ Fr))) wp4 he4 (hhp4.sub (by (repeat' (first | refine sub_append ?_ ?_ | refine sub_cons ?_ ?_ | exact sub_nil)); all_goals first | (intro p hp; simp only [List.mem_append, List.mem_cons, hp, true_or, or_true]) | simp only [List.mem_append, List.mem_cons, true_or, or_true]) (fun b => by simp only [keyc_append, keyc_cons, keyc_nil]; omega)) (by omega))
  obtain ⟨Fp4, hFp4⟩ : ∃ F : HL, F = He4 ++ (G4 ++ Fg3) := ⟨_, rfl⟩
  rw [← hFp4] at hhq4
  clear he4 hc4 hhp4 hgp4 hhg3 hGf3 hFp4 HP4
  go_wp2_with fail
  refine HNM4.out.mono ?_
  rintro e wx ⟨rfl, rfl⟩
  clear HNM4
  go_wp2_with fail
  refine (fill_any n 156 _ _ hhq4 (by omega)).mono ?_
  rintro e wf5 ⟨rv5, Hr5, rfl, hr5, hhf5, hgf5⟩
  rw [HRW.out] at hr5
  obtain ⟨Ar5, qr5, rfl⟩ := hr5.val
  rw [HRL.out] at hr5 ⊢
  have HR5 := Lib.hid hr5
  have hGf5 := hGp4.trans hgf5
  have hhg5 : Holds wf5 (H4 ++ ((Hr5 ++ Fp4) ++ Fr)) := hhf5.sub (by (repeat' (first | refine sub_append ?_ ?_ | refine sub_cons ?_ ?_ | exact sub_nil)); all_goals first | (intro p hp; simp only [List.mem_append, List.mem_cons, hp, true_or, or_true]) | simp only [List.mem_append, List.mem_cons, true_or, or_true]) (fun b => by simp only [keyc_append, keyc_cons, keyc_nil]; omega)
  obtain ⟨Fg5, hFg5⟩ : ∃ F : HL, F = Hr5 ++ Fp4 := ⟨_, rfl⟩
  have HRF5 := Lib.hid (show FrBytes (Fg5 ++ Fr) (.slice Ar5 156 qr5) raw from fun wx hx => by rw [hFg5] at hx; exact HR5.out.at_ (Fr := Fp4 ++ Fr) (by simpa using hx))
  rw [← hFg5] at hhg5
  clear hr5 hhf5 hgf5 hhq4 hGp4 hFg5 HR5
  obtain ⟨c6, hce6, hD6⟩ := (HD4.out).progFailed (p := 2) (by omega) raw (by show ¬ ((2 : Int) = _); omega) rfl rfl rfl
  have HD6 := Lib.hid (show DSt c6 4 k (fX3 raw (min by1.toNat (raw.length - 1))) fX0 true _ _ ⟨2, 1, by1, 0⟩ from hD6)
  have hP6 := nprogram_full k _ 2 (.slice Ar5 156 qr5) raw HC4.out (Fr := Fg5 ++ Fr) (hhg5) ((HD4.out).opsLt (by omega)) (HD4.out).bX HRF5.out (by rw [(HD4.out).eZ]; exact HRL.out)
  rw [show ((2 : Nat) : Int) = 2 from rfl] at hce6
  rw [hce6] at hP6
  have HP6 := Lib.hid hP6
  clear hP6 hce6 hD6
  go_wp2_with fail
  refine HP6.out.mono ?_
  rintro e wp6 ⟨G6, ve6, H6, He6, rfl, he6, hc6, hhp6, hgp6⟩
  have HC6 := Lib.hid hc6
  have hGp6 := hGf5.trans hgp6
  obtain ⟨bb6, ss6, rfl, _⟩ := isErrP8 he6 (show (5 : Int) ≠ 0 by decide)
  have hhq6 : Holds wp6 (H6 ++ ((He6 ++ (G6 ++ Fg5)) ++ Fr)) := hhp6.sub (by (repeat' (first | refine sub_append ?_ ?_ | refine sub_cons ?_ ?_ | exact sub_nil)); all_goals first | (intro p hp; simp only [List.mem_append, List.mem_cons, hp, true_or, or_true]) | simp only [List.mem_append, List.mem_cons, true_or, or_true]) (fun b => by simp only [keyc_append, keyc_cons, keyc_nil]; omega)
  have HNM6 := Lib.hid (num_any _ 5 He6 (H6 ++ (G6 ++ (Fg5 ++ Fr))) wp6 he6 (hhp6.sub (by (repeat' (first | refine sub_append ?_ ?_ | refine sub_cons ?_ ?_ | exact sub_nil)); all_goals first | (intro p hp; simp only [List.mem_append, List.mem_cons, hp, true_or, or_true]) | simp only [List.mem_append, List.mem_cons, true_or, or_true]) (fun b => by simp only [keyc_append, keyc_cons, keyc_nil]; omega)) (by omega))
  obtain ⟨Fp6, hFp6⟩ : ∃ F : HL, F = He6 ++ (G6 ++ Fg5) := ⟨_, rfl⟩
  rw [← hFp6] at hhq6
  clear he6 hc6 hhp6 hgp6 hhg5 hGf5 hFp6 HP6
  go_wp2_with fail
  refine HNM6.out.mono ?_
  rintro e wx ⟨rfl, rfl⟩
  clear HNM6
  obtain ⟨c7, hce7, hD7⟩ := (HD6.out).eraseFailed (by show ¬ ((2 : Int) = _); omega) rfl rfl
  have HD7 := Lib.hid (show DSt c7 4 k (fX4 raw (min by1.toNat (raw.length - 1))) fX0 true _ _ ⟨2, 1, by1, 0⟩ from hD7)
  have hP7 := nerase_full k _ HC6.out (Fr := Fp6 ++ Fr) (hhq6) ((HD6.out).opsLt (by omega)) (HD6.out).bX
  skip
  rw [hce7] at hP7
  have HP7 := Lib.hid hP7
  clear hP7 hce7 hD7
  go_wp2_with fail
  refine HP7.out.mono ?_
  rintro e wp7 ⟨G7, ve7, H7, He7, rfl, he7, hc7, hhp7, hgp7⟩
  have HC7 := Lib.hid hc7
  have hGp7 := hGp6.trans hgp7
  obtain ⟨bb7, ss7, rfl, _⟩ := isErrP8 he7 (show (5 : Int) ≠ 0 by decide)
  have hhq7 : Holds wp7 (H7 ++ ((He7 ++ (G7 ++ Fp6)) ++ Fr)) := hhp7.sub (by (repeat' (first | refine sub_append ?_ ?_ | refine sub_cons ?_ ?_ | exact sub_nil)); all_goals first | (intro p hp; simp only [List.mem_append, List.mem_cons, hp, true_or, or_true]) | simp only [List.mem_append, List.mem_cons, true_or, or_true]) (fun b => by simp only [keyc_append, keyc_cons, keyc_nil]; omega)
  have HNM7 := Lib.hid (num_any _ 5 He7 (H7 ++ (G7 ++ (Fp6 ++ Fr))) wp7 he7 (hhp7.sub (by (repeat' (first | refine sub_append ?_ ?_ | refine sub_cons ?_ ?_ | exact sub_nil)); all_goals first | (intro p hp; simp only [List.mem_append, List.mem_cons, hp, true_or, or_true]) | simp only [List.mem_append, List.mem_cons, true_or, or_true]) (fun b => by simp only [keyc_append, keyc_cons, keyc_nil]; omega)) (by omega))
  obtain ⟨Fp7, hFp7⟩ : ∃ F : HL, F = He7 ++ (G7 ++ Fp6) := ⟨_, rfl⟩
  rw [← hFp7] at hhq7
  clear he7 hc7 hhp7 hgp7 hhq6 hGp6 hFp7 HP7
  go_wp2_with fail
  refine HNM7.out.mono ?_
  rintro e wx ⟨rfl, rfl⟩
  clear HNM7
  obtain ⟨c8, hce8, hD8⟩ := HD7.out.read (p := 0) (by omega) (by show ¬ ((2 : Int) = _); omega)
  have HD8 := Lib.hid (show DSt c8 4 k (fX4 raw (min by1.toNat (raw.length - 1))) fX0 true _ _ ⟨2, 1, by1, 0⟩ from hD8)
  have hP8 := nread_any (k : Int) 0 HC7.out (Fr := Fp7 ++ Fr) hhq7 (Int.le_of_lt (HD7.out.opsLt (by omega)))
  rw [show c7.read (k : Int) 0 = (c8, raw, 0) by have hq := hce8; rw [fX4_p0 (j := (min by1.toNat (raw.length - 1))) HRL.out] at hq; exact hq] at hP8
  have HP8 := Lib.hid hP8
  clear hP8 hce8 hD8
  go_wp2_with fail
  refine HP8.out.mono ?_
  rintro e wp8 ⟨v8, ve8, H8, Hv8, He8, G8, rfl, hb8, he8, hc8, hhp8, hgp8⟩
  obtain ⟨rfl, rfl⟩ := isErr0 he8
  have HC8 := Lib.hid hc8
  have hGp8 := hGp7.trans hgp8
  obtain ⟨Av8, qv8, rfl⟩ := hb8.val
  rw [HRL.out] at hb8 ⊢
  have HB8 := Lib.hid hb8
  obtain ⟨Fr8, hFr8⟩ : ∃ F : HL, F = Hv8 ++ Fr := ⟨_, rfl⟩
  have hhq8 : Holds wp8 (H8 ++ ((G8 ++ Fp7) ++ Fr8)) := by rw [hFr8]; exact hhp8.sub (by (repeat' (first | refine sub_append ?_ ?_ | refine sub_cons ?_ ?_ | exact sub_nil)); all_goals first | (intro p hp; simp only [List.mem_append, List.mem_cons, hp, true_or, or_true]) | simp only [List.mem_append, List.mem_cons, true_or, or_true]) (fun b => by simp only [keyc_append, keyc_cons, keyc_nil]; omega)
  have HVF8 := Lib.hid (show FrBytes Fr8 (.slice Av8 156 qv8) raw from fun wx hx => by rw [hFr8] at hx; exact HB8.out.at_ hx)
  have HFR8 := Lib.hid hFr8
  obtain ⟨Fp8, hFp8⟩ : ∃ F : HL, F = G8 ++ Fp7 := ⟨_, rfl⟩
  rw [← hFp8] at hhq8
  clear he8 hc8 hhp8 hgp8 hhq7 hGp7 hFp8 HP8 hb8 HB8 hFr8
  obtain ⟨c9, hce9, hD9⟩ := HD8.out.read (p := 1) (by omega) (by show ¬ ((2 : Int) = _); omega)
  have HD9 := Lib.hid (show DSt c9 4 k (fX4 raw (min by1.toNat (raw.length - 1))) fX0 true _ _ ⟨2, 1, by1, 0⟩ from hD9)
  have hP9 := nread_any (k : Int) 1 HC8.out (Fr := Fp8 ++ Fr8) hhq8 (Int.le_of_lt (HD8.out.opsLt (by omega)))
  rw [show c8.read (k : Int) 1 = (c9, (raw.take (min by1.toNat (raw.length - 1)) ++ (blankP 128).drop (min by1.toNat (raw.length - 1))), 0) by have hq := hce9; rw [fX4_p1] at hq; exact hq] at hP9
  have HP9 := Lib.hid hP9
  clear hP9 hce9 hD9
  go_wp2_with fail
  refine HP9.out.mono ?_
  rintro e wp9 ⟨v9, ve9, H9, Hv9, He9, G9, rfl, hb9, he9, hc9, hhp9, hgp9⟩
  obtain ⟨rfl, rfl⟩ := isErr0 he9
  have HC9 := Lib.hid hc9
  have hGp9 := hGp8.trans hgp9
  obtain ⟨Av9, qv9, rfl⟩ := hb9.val
  rw [p1_length HRL.out hby155] at hb9 ⊢
  have HB9 := Lib.hid hb9
  obtain ⟨Fr9, hFr9⟩ : ∃ F : HL, F = Hv9 ++ Fr8 := ⟨_, rfl⟩
  have hhq9 : Holds wp9 (H9 ++ ((G9 ++ Fp8) ++ Fr9)) := by rw [hFr9]; exact hhp9.sub (by (repeat' (first | refine sub_append ?_ ?_ | refine sub_cons ?_ ?_ | exact sub_nil)); all_goals first | (intro p hp; simp only [List.mem_append, List.mem_cons, hp, true_or, or_true]) | simp only [List.mem_append, List.mem_cons, true_or, or_true]) (fun b => by simp only [keyc_append, keyc_cons, keyc_nil]; omega)
  have HVF9 := Lib.hid (show FrBytes Fr9 (.slice Av9 156 qv9) (raw.take (min by1.toNat (raw.length - 1)) ++ (blankP 128).drop (min by1.toNat (raw.length - 1))) from fun wx hx => by rw [hFr9] at hx; exact HB9.out.at_ hx)
  have HFR9 := Lib.hid hFr9
  obtain ⟨Fp9, hFp9⟩ : ∃ F : HL, F = G9 ++ Fp8 := ⟨_, rfl⟩
  rw [← hFp9] at hhq9
  clear he9 hc9 hhp9 hgp9 hhq8 hGp8 hFp9 HP9 hb9 HB9 hFr9
  go_wp2_with fail
  refine (fill_any n 156 _ _ hhq9 (by omega)).mono ?_
  rintro e wf10 ⟨rv10, Hr10, rfl, hr10, hhf10, hgf10⟩
  rw [HRW.out] at hr10
  obtain ⟨Ar10, qr10, rfl⟩ := hr10.val
  rw [HRL.out] at hr10 ⊢
  have HR10 := Lib.hid hr10
  have hGf10 := hGp9.trans hgf10
  have hhg10 : Holds wf10 (H9 ++ ((Hr10 ++ Fp9) ++ Fr9)) := hhf10.sub (by (repeat' (first | refine sub_append ?_ ?_ | refine sub_cons ?_ ?_ | exact sub_nil)); all_goals first | (intro p hp; simp only [List.mem_append, List.mem_cons, hp, true_or, or_true]) | simp only [List.mem_append, List.mem_cons, true_or, or_true]) (fun b => by simp only [keyc_append, keyc_cons, keyc_nil]; omega)
  obtain ⟨Fg10, hFg10⟩ : ∃ F : HL, F = Hr10 ++ Fp9 := ⟨_, rfl⟩
  have HRF10 := Lib.hid (show FrBytes (Fg10 ++ Fr9) (.slice Ar10 156 qr10) raw from fun wx hx => by rw [hFg10] at hx; exact HR10.out.at_ (Fr := Fp9 ++ Fr9) (by simpa using hx))
  rw [← hFg10] at hhg10
  clear hr10 hhf10 hgf10 hhq9 hGp9 hFg10 HR10
  have hsm := same_any (.slice Av8 156 qv8) (.slice Ar10 156 qr10) raw raw wf10 (HVF8.out _ (by have := hhg10.right.right; rw [HFR9.out] at this; exact this.right)) (HRF10.out _ hhg10.right)
  rw [decide_eq_true rfl] at hsm
  have HSM := Lib.hid hsm
  clear hsm
  go_wp2_with fail
  refine HSM.out.mono ?_
  rintro e ws11 ⟨rfl, hq11⟩
  have hhs11 := hhg10.dr hq11
  have hGs11 := hGf10.trans (Grew.dr hq11)
  obtain ⟨_, A11, q11, hv11, hq111, hq211, hrd11⟩ := HVF9.out _ hhs11.right.right
  injection hv11 with hv111 hv211 hv311
  subst hv111 hv311
  rw [p1_length HRL.out hby155] at hrd11
  obtain ⟨b11, o11, rfl, hcl11⟩ := hrd11 (by omega)
  have y155 := hcl11 155 (.int .u8 255) (p1_last HRL.out hby155)
  rw [p1_length HRL.out hby155] at hq111
  unfold maxLen at hq211
  clear hhg10 hGf10 hq11 HSM hrd11 hcl11 hv211
  go_wp2_with fail
  refine (nnext_any (k : Int) HC9.out hhs11).mono ?_
  rintro e wx ⟨rfl, rfl⟩
  rw [show _ = (3 : Int) from HD9.out.nextOf]
  go_wp2_with fail
  refine (nwear_any (k : Int) HC9.out hhs11).mono ?_
  rintro e wx ⟨rfl, rfl⟩
  rw [show _ = (0 : Int) from HD9.out.wearOf]
  go_wp2_with fail
  refine (nmisuse_any HC9.out hhs11).mono ?_
  rintro e wx ⟨rfl, rfl⟩
  rw [show _ = (0 : Int) from HD9.out.em]
  go_wp2_with fail
  refine (fill_any n 156 _ _ hhs11 (by omega)).mono ?_
  rintro e wf12 ⟨rv12, Hr12, rfl, hr12, hhf12, hgf12⟩
  rw [HRW.out] at hr12
  obtain ⟨Ar12, qr12, rfl⟩ := hr12.val
  rw [HRL.out] at hr12 ⊢
  have HR12 := Lib.hid hr12
  have hGf12 := hGs11.trans hgf12
  have hhg12 : Holds wf12 (H9 ++ ((Hr12 ++ Fg10) ++ Fr9)) := hhf12.sub (by (repeat' (first | refine sub_append ?_ ?_ | refine sub_cons ?_ ?_ | exact sub_nil)); all_goals first | (intro p hp; simp only [List.mem_append, List.mem_cons, hp, true_or, or_true]) | simp only [List.mem_append, List.mem_cons, true_or, or_true]) (fun b => by simp only [keyc_append, keyc_cons, keyc_nil]; omega)
  obtain ⟨Fg12, hFg12⟩ : ∃ F : HL, F = Hr12 ++ Fg10 := ⟨_, rfl⟩
  have HRF12 := Lib.hid (show FrBytes (Fg12 ++ Fr9) (.slice Ar12 156 qr12) raw from fun wx hx => by rw [hFg12] at hx; exact HR12.out.at_ (Fr := Fg10 ++ Fr9) (by simpa using hx))
  rw [← hFg12] at hhg12
  clear hr12 hhf12 hgf12 hhs11 hGs11 hFg12 HR12
  have H1K := Lib.hid (show (1 : Int) - (k : Int) = ((1 - k : Nat) : Int) by omega)
  obtain ⟨c13, hce13, hD13⟩ := (HD9.out.swap).progGood (p := 0) (by omega) raw (by show ¬ ((2 : Int) = _); omega) rfl rfl rfl
  have HD13 := Lib.hid (show DSt c13 4 (1 - k) (fX1 raw) (fX4 raw (min by1.toNat (raw.length - 1))) true _ _ ⟨2, 1, by1, 0⟩ from hD13)
  have hP13 := nprogram_full (1 - k) _ 0 (.slice Ar12 156 qr12) raw HC9.out (Fr := Fg12 ++ Fr9) (hhg12) ((HD9.out.swap).opsLt (by omega)) (HD9.out.swap).bX HRF12.out (by rw [(HD9.out.swap).eZ]; exact HRL.out)
  rw [show ((0 : Nat) : Int) = 0 from rfl] at hce13
  rw [hce13] at hP13
  have HP13 := Lib.hid hP13
  clear hP13 hce13 hD13
  have HDs13 := Lib.hid HD13.out.swap
  rw [show 1 - (1 - k) = k by omega] at HDs13
  clear HD13
  go_wp2_with fail
  rw [H1K.out]
  refine HP13.out.mono ?_
  rintro e wp13 ⟨G13, ve13, H13, He13, rfl, he13, hc13, hhp13, hgp13⟩
  have HC13 := Lib.hid hc13
  have hGp13 := hGf12.trans hgp13
  obtain ⟨rfl, rfl⟩ := isErr0 he13
  have hhq13 : Holds wp13 (H13 ++ ((G13 ++ Fg12) ++ Fr9)) := hhp13.sub (by (repeat' (first | refine sub_append ?_ ?_ | refine sub_cons ?_ ?_ | exact sub_nil)); all_goals first | (intro p hp; simp only [List.mem_append, List.mem_cons, hp, true_or, or_true]) | simp only [List.mem_append, List.mem_cons, true_or, or_true]) (fun b => by simp only [keyc_append, keyc_cons, keyc_nil]; omega)
  obtain ⟨Fp13, hFp13⟩ : ∃ F : HL, F = G13 ++ Fg12 := ⟨_, rfl⟩
  rw [← hFp13] at hhq13
  clear he13 hc13 hhp13 hgp13 hhg12 hGf12 hFp13 HP13
  obtain ⟨c14, hce14, hD14⟩ := (HDs13.out.swap).eraseGood (by show ¬ ((2 : Int) = _); omega) rfl rfl
  have HD14 := Lib.hid (show DSt c14 4 (1 - k) { fX1 raw with pages := blankB 4 128, next := 0, wear := (fX1 raw).wear + 1 } (fX4 raw (min by1.toNat (raw.length - 1))) true _ _ ⟨2, 1, by1, 0⟩ from hD14)
  have hP14 := nerase_full (1 - k) _ HC13.out (Fr := Fp13 ++ Fr9) (hhq13) ((HDs13.out.swap).opsLt (by omega)) (HDs13.out.swap).bX
  skip
  rw [hce14] at hP14
  have HP14 := Lib.hid hP14
  clear hP14 hce14 hD14
  have HDs14 := Lib.hid HD14.out.swap
  rw [show 1 - (1 - k) = k by omega] at HDs14
  clear HD14
  go_wp2_with fail
  rw [H1K.out]
  refine HP14.out.mono ?_
  rintro e wp14 ⟨G14, ve14, H14, He14, rfl, he14, hc14, hhp14, hgp14⟩
  have HC14 := Lib.hid hc14
  have hGp14 := hGp13.trans hgp14
  obtain ⟨rfl, rfl⟩ := isErr0 he14
  have hhq14 : Holds wp14 (H14 ++ ((G14 ++ Fp13) ++ Fr9)) := hhp14.sub (by (repeat' (first | refine sub_append ?_ ?_ | refine sub_cons ?_ ?_ | exact sub_nil)); all_goals first | (intro p hp; simp only [List.mem_append, List.mem_cons, hp, true_or, or_true]) | simp only [List.mem_append, List.mem_cons, true_or, or_true]) (fun b => by simp only [keyc_append, keyc_cons, keyc_nil]; omega)
  obtain ⟨Fp14, hFp14⟩ : ∃ F : HL, F = G14 ++ Fp13 := ⟨_, rfl⟩
  rw [← hFp14] at hhq14
  clear he14 hc14 hhp14 hgp14 hhq13 hGp13 hFp14 HP14
  obtain ⟨c15, hce15, hD15⟩ := (HDs14.out).mark (by show ¬ ((2 : Int) = _); omega)
  have HD15 := Lib.hid (show DSt c15 4 k (fX5 raw (min by1.toNat (raw.length - 1))) { fX1 raw with pages := blankB 4 128, next := 0, wear := (fX1 raw).wear + 1 } true _ _ ⟨2, 1, by1, 0⟩ from hD15)
  have hP15 := nmark_any k _ HC14.out (Fr := Fp14 ++ Fr9) (hhq14) ((HDs14.out).opsLt (by omega)) (HDs14.out).bX
  skip
  rw [hce15] at hP15
  have HP15 := Lib.hid hP15
  clear hP15 hce15 hD15
  go_wp2_with fail
  refine HP15.out.mono ?_
  rintro e wp15 ⟨G15, ve15, H15, He15, rfl, he15, hc15, hhp15, hgp15⟩
  have HC15 := Lib.hid hc15
  have hGp15 := hGp14.trans hgp15
  obtain ⟨rfl, rfl⟩ := isErr0 he15
  have hhq15 : Holds wp15 (H15 ++ ((G15 ++ Fp14) ++ Fr9)) := hhp15.sub (by (repeat' (first | refine sub_append ?_ ?_ | refine sub_cons ?_ ?_ | exact sub_nil)); all_goals first | (intro p hp; simp only [List.mem_append, List.mem_cons, hp, true_or, or_true]) | simp only [List.mem_append, List.mem_cons, true_or, or_true]) (fun b => by simp only [keyc_append, keyc_cons, keyc_nil]; omega)
  obtain ⟨Fp15, hFp15⟩ : ∃ F : HL, F = G15 ++ Fp14 := ⟨_, rfl⟩
  rw [← hFp15] at hhq15
  clear he15 hc15 hhp15 hgp15 hhq14 hGp14 hFp15 HP15
  go_wp2_with fail
  refine (nmarked_any (k : Int) HC15.out hhq15).mono ?_
  rintro e wx ⟨rfl, rfl⟩
  rw [show _ = true from HD15.out.markOf]
  obtain ⟨c16, hce16, hD16⟩ := (HD15.out).eraseMarked (by show ¬ ((2 : Int) = _); omega) rfl
  have HD16 := Lib.hid (show DSt c16 4 k (fX5 raw (min by1.toNat (raw.length - 1))) { fX1 raw with pages := blankB 4 128, next := 0, wear := (fX1 raw).wear + 1 } true _ _ ⟨2, 1, by1, 0⟩ from hD16)
  have hP16 := nerase_full k _ HC15.out (Fr := Fp15 ++ Fr9) (hhq15) ((HD15.out).opsLt (by omega)) (HD15.out).bX
  skip
  rw [hce16] at hP16
  have HP16 := Lib.hid hP16
  clear hP16 hce16 hD16
  go_wp2_with fail
  refine HP16.out.mono ?_
  rintro e wp16 ⟨G16, ve16, H16, He16, rfl, he16, hc16, hhp16, hgp16⟩
  have HC16 := Lib.hid hc16
  have hGp16 := hGp15.trans hgp16
  obtain ⟨bb16, ss16, rfl, _⟩ := isErrP8 he16 (show (6 : Int) ≠ 0 by decide)
  have hhq16 : Holds wp16 (H16 ++ ((He16 ++ (G16 ++ Fp15)) ++ Fr9)) := hhp16.sub (by (repeat' (first | refine sub_append ?_ ?_ | refine sub_cons ?_ ?_ | exact sub_nil)); all_goals first | (intro p hp; simp only [List.mem_append, List.mem_cons, hp, true_or, or_true]) | simp only [List.mem_append, List.mem_cons, true_or, or_true]) (fun b => by simp only [keyc_append, keyc_cons, keyc_nil]; omega)
  have HNM16 := Lib.hid (num_any _ 6 He16 (H16 ++ (G16 ++ (Fp15 ++ Fr9))) wp16 he16 (hhp16.sub (by (repeat' (first | refine sub_append ?_ ?_ | refine sub_cons ?_ ?_ | exact sub_nil)); all_goals first | (intro p hp; simp only [List.mem_append, List.mem_cons, hp, true_or, or_true]) | simp only [List.mem_append, List.mem_cons, true_or, or_true]) (fun b => by simp only [keyc_append, keyc_cons, keyc_nil]; omega)) (by omega))
  obtain ⟨Fp16, hFp16⟩ : ∃ F : HL, F = He16 ++ (G16 ++ Fp15) := ⟨_, rfl⟩
  rw [← hFp16] at hhq16
  clear he16 hc16 hhp16 hgp16 hhq15 hGp15 hFp16 HP16
  go_wp2_with fail
  refine HNM16.out.mono ?_
  rintro e wx ⟨rfl, rfl⟩
  clear HNM16
  have HX8 := Lib.hid (show FrBytes (Fp16 ++ Fr9) (.slice Av8 156 qv8) raw from fun wx hx => HVF8.out wx (by have := hx.right; rw [HFR9.out] at this; exact this.right))
  obtain ⟨c17, hce17, hD17⟩ := (HD16.out).progMarked (p := 3) (by omega) raw (by show ¬ ((2 : Int) = _); omega) rfl
  have HD17 := Lib.hid (show DSt c17 4 k (fX5 raw (min by1.toNat (raw.length - 1))) { fX1 raw with pages := blankB 4 128, next := 0, wear := (fX1 raw).wear + 1 } true _ _ ⟨2, 1, by1, 0⟩ from hD17)
  have hP17 := nprogram_full k _ 3 (.slice Av8 156 qv8) raw HC16.out (Fr := Fp16 ++ Fr9) (hhq16) ((HD16.out).opsLt (by omega)) (HD16.out).bX HX8.out (by rw [(HD16.out).eZ]; exact HRL.out)
  rw [show ((3 : Nat) : Int) = 3 from rfl] at hce17
  rw [hce17] at hP17
  have HP17 := Lib.hid hP17
  clear hP17 hce17 hD17
  go_wp2_with fail
  refine HP17.out.mono ?_
  rintro e wp17 ⟨G17, ve17, H17, He17, rfl, he17, hc17, hhp17, hgp17⟩
  have HC17 := Lib.hid hc17
  have hGp17 := hGp16.trans hgp17
  obtain ⟨bb17, ss17, rfl, _⟩ := isErrP8 he17 (show (6 : Int) ≠ 0 by decide)
  have hhq17 : Holds wp17 (H17 ++ ((He17 ++ (G17 ++ Fp16)) ++ Fr9)) := hhp17.sub (by (repeat' (first | refine sub_append ?_ ?_ | refine sub_cons ?_ ?_ | exact sub_nil)); all_goals first | (intro p hp; simp only [List.mem_append, List.mem_cons, hp, true_or, or_true]) | simp only [List.mem_append, List.mem_cons, true_or, or_true]) (fun b => by simp only [keyc_append, keyc_cons, keyc_nil]; omega)
  have HNM17 := Lib.hid (num_any _ 6 He17 (H17 ++ (G17 ++ (Fp16 ++ Fr9))) wp17 he17 (hhp17.sub (by (repeat' (first | refine sub_append ?_ ?_ | refine sub_cons ?_ ?_ | exact sub_nil)); all_goals first | (intro p hp; simp only [List.mem_append, List.mem_cons, hp, true_or, or_true]) | simp only [List.mem_append, List.mem_cons, true_or, or_true]) (fun b => by simp only [keyc_append, keyc_cons, keyc_nil]; omega)) (by omega))
  obtain ⟨Fp17, hFp17⟩ : ∃ F : HL, F = He17 ++ (G17 ++ Fp16) := ⟨_, rfl⟩
  rw [← hFp17] at hhq17
  clear he17 hc17 hhp17 hgp17 hhq16 hGp16 hFp17 HP17
  go_wp2_with fail
  refine HNM17.out.mono ?_
  rintro e wx ⟨rfl, rfl⟩
  clear HNM17
  go_wp2_with fail
  refine (nmisuse_any HC17.out hhq17).mono ?_
  rintro e wx ⟨rfl, rfl⟩
  rw [show _ = (2 : Int) from HD17.out.em]
  go_wp2_with fail
  refine (awake8_any _ _ hhq17).mono ?_
  rintro e wa ⟨rfl, hHa, hga⟩
  go_wp2_with fail
  go_ret
  exact ⟨rfl, by have := hHa.right.right; rw [HFR9.out, HFR8.out] at this; exact this.right.right, hGp17.trans hga⟩
end Go.Proofs.Ytndalabilfdgkaa
