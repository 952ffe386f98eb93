/-
  NandDark: the walk, of a program.
-/
import Derived.Test.YtndalabilfdgkaaL8F
namespace Go.Proofs.Ytndalabilfdgkaa
open Go.RowKit
set_option linter.unusedSimpArgs false
set_option linter.unusedVariables false

def DkP (H R : HL) (w : World) (iv : Value) (wr : World) : Prop := ∃ (j : Nat) (F2 : HL), j ≤ 156 ∧ iv = .int .i64 j ∧ Holds wr (H ++ (F2 ++ R)) ∧ Grew w wr
set_option maxRecDepth 100000 in
set_option maxHeartbeats 8000000 in
theorem ndark_prog (n by0 : Int) (u : UInt8) (w : World) :
    Calls Try.prog 5 #[.int .i64 n, .int .i64 by0, .int .u8 (u.toNat : Int), .bool false] w (RetFr (.bool true) w (allOf w)) := by
  have hH := holds_all w
  generalize allOf w = Fr at *
  have k1 := err_eq
  have k2 := nil_eq
  have k3 := err_ne
  have k4 := nil_ne
  have hq := low_bd by0 157 (by omega) (by omega)
  go_enter Try.func5, Try.ntmps5
  go_wp2_with fail
  refine (low_any by0 157 _ (by omega) (by omega)).mono ?_
  rintro e wx ⟨rfl, rfl⟩
  obtain ⟨jn, hjn⟩ := Int.eq_ofNat_of_zero_le hq.1
  rw [hjn] at hq ⊢
  clear hjn
  have hj6 : jn ≤ 156 := by omega
  have HM := Lib.hid (show Mi.ok ⟨2, 2, (jn : Int), u⟩ from ⟨show (1 : Int) ≤ 2 by decide, show (2 : Int) ≤ 1073741824 by decide, .inr rfl, hq.1, by show (jn : Int) ≤ 65536; omega⟩)
  have hHA := hH.alloc (.cells #[.int .i64 2, .int .i64 2, .int .i64 (jn : Int), .int .u8 (u.toNat : Int)] 47)
  have hGA := (Grew.refl w).alloc (.cells #[.int .i64 2, .int .i64 2, .int .i64 (jn : Int), .int .u8 (u.toNat : Int)] 47)
  have HF := Lib.hid (show FrMs ((w.heap.size, .cells #[.int .i64 2, .int .i64 2, .int .i64 (jn : Int), .int .u8 (u.toNat : Int)] 47) :: Fr) (.slice (some ⟨w.heap.size, 0, none⟩) 1 1) [⟨2, 2, (jn : Int), u⟩] from fun wx hx => IsRow.reads (ms_one w.heap.size ⟨2, 2, (jn : Int), u⟩) (Fr := Fr) (by simpa [cellB] using hx))
  have HN := Lib.hid (nnew_good 2 2 128 (.slice none 0 0) (.slice (some ⟨w.heap.size, 0, none⟩) 1 1) [] [⟨2, 2, (jn : Int), u⟩] _ _ hHA (fun wx hx => ⟨rfl, none, 0, rfl, Nat.le_refl _, by simp [maxLen], fun h => absurd h (by simp)⟩)
    HF.out (fun wx F hx => may_one _ _ wx _ (fun wy hy => HF.out wy hy.right) hx HM.out) (by omega) (by omega) (by omega) (by omega) (by omega) (by omega) (by simp) (by intro m hm; rw [List.mem_singleton.1 hm]; exact HM.out) (by simp))
  clear HF hHA
  go_wp2_with fail
  refine HN.out.mono ?_
  rintro e w1 ⟨dv, H0, rfl, ⟨b, g, cap, mv, rfl, hc0⟩, hH1, hg1⟩
  have HC0 := Lib.hid hc0
  have HD0 := Lib.hid (dst_new (P := 2) (k := 0) (M := ⟨2, 2, (jn : Int), u⟩) (by omega))
  have hG0 := hGA.trans hg1
  have hh0 : Holds w1 (H0 ++ ([(w.heap.size, .cells #[.int .i64 2, .int .i64 2, .int .i64 (jn : Int), .int .u8 (u.toNat : Int)] 47)] ++ Fr)) := hH1.sub (by (repeat' (first | refine sub_append ?_ ?_ | refine sub_cons ?_ ?_ | exact sub_nil)); all_goals first | (intro p hp; simp only [List.mem_append, List.mem_cons, hp, true_or, or_true]) | simp only [List.mem_append, List.mem_cons, true_or, or_true]) (fun b => by simp only [keyc_append, keyc_cons, keyc_nil]; omega)
  clear hc0 HN hH hH1 hGA hg1
  obtain ⟨F0, hF0⟩ : ∃ F0 : HL, F0 = [(w.heap.size, .cells #[.int .i64 2, .int .i64 2, .int .i64 (jn : Int), .int .u8 (u.toNat : Int)] 47)] := ⟨_, rfl⟩
  rw [← hF0] at hh0
  clear hF0
  obtain ⟨raw, hraw⟩ : ∃ raw, raw = fillL n 156 := ⟨_, rfl⟩
  have HRW := Lib.hid hraw.symm
  have HRL := Lib.hid (show raw.length = 156 by rw [hraw]; simp [fillL])
  clear hraw
  obtain ⟨raw2, hraw2⟩ : ∃ raw2, raw2 = fillL (wrap64 (n + 1)) 156 := ⟨_, rfl⟩
  have HRW2 := Lib.hid hraw2.symm
  have HRL2 := Lib.hid (show raw2.length = 156 by rw [hraw2]; simp [fillL])
  clear hraw2
  go_wp2_with fail
  refine (fill_any _ 156 _ _ hh0 (by omega)).mono ?_
  rintro e wf1 ⟨rv1, Hr1, rfl, hr1, hhf1, hgf1⟩
  rw [HRW.out] at hr1
  obtain ⟨Ar1, qr1, rfl⟩ := hr1.val
  rw [HRL.out] at hr1 ⊢
  have HR1 := Lib.hid hr1
  have hGf1 := hG0.trans hgf1
  have hhg1 : Holds wf1 (H0 ++ ((Hr1 ++ F0) ++ Fr)) := hhf1.sub (by (repeat' (first | refine sub_append ?_ ?_ | refine sub_cons ?_ ?_ | exact sub_nil)); all_goals first | (intro p hp; simp only [List.mem_append, List.mem_cons, hp, true_or, or_true]) | simp only [List.mem_append, List.mem_cons, true_or, or_true]) (fun b => by simp only [keyc_append, keyc_cons, keyc_nil]; omega)
  obtain ⟨Fg1, hFg1⟩ : ∃ F : HL, F = Hr1 ++ F0 := ⟨_, rfl⟩
  have HRF1 := Lib.hid (show FrBytes (Fg1 ++ Fr) (.slice Ar1 156 qr1) raw from fun wx hx => by rw [hFg1] at hx; exact HR1.out.at_ (Fr := F0 ++ Fr) (by simpa using hx))
  rw [← hFg1] at hhg1
  clear hr1 hhf1 hgf1 hh0 hG0 hFg1 HR1
  obtain ⟨c2, hce2, hD2⟩ := (HD0.out).progGood (p := 0) (by omega) raw (by show ¬ ((2 : Int) = _); omega) rfl rfl rfl
  have HD2 := Lib.hid (show DSt c2 2 0 (gX1 raw) gX0 true _ _ ⟨2, 2, (jn : Int), u⟩ from hD2)
  have hP2 := nprogram_full 0 _ 0 (.slice Ar1 156 qr1) raw HC0.out (Fr := Fg1 ++ Fr) (hhg1) ((HD0.out).opsLt (by omega)) (HD0.out).bX HRF1.out (by rw [(HD0.out).eZ]; exact HRL.out)
  rw [show ((0 : Nat) : Int) = 0 from rfl] at hce2
  rw [hce2, show ((0 : Nat) : Int) = 0 from rfl] at hP2
  have HP2 := Lib.hid hP2
  clear hP2 hce2 hD2
  go_wp2_with fail
  refine HP2.out.mono ?_
  rintro e wp2 ⟨G2, ve2, H2, He2, rfl, he2, hc2, hhp2, hgp2⟩
  have HC2 := Lib.hid hc2
  have hGp2 := hGf1.trans hgp2
  obtain ⟨rfl, rfl⟩ := isErr0 he2
  have hhq2 : Holds wp2 (H2 ++ ((G2 ++ Fg1) ++ Fr)) := hhp2.sub (by (repeat' (first | refine sub_append ?_ ?_ | refine sub_cons ?_ ?_ | exact sub_nil)); all_goals first | (intro p hp; simp only [List.mem_append, List.mem_cons, hp, true_or, or_true]) | simp only [List.mem_append, List.mem_cons, true_or, or_true]) (fun b => by simp only [keyc_append, keyc_cons, keyc_nil]; omega)
  obtain ⟨Fp2, hFp2⟩ : ∃ F : HL, F = G2 ++ Fg1 := ⟨_, rfl⟩
  rw [← hFp2] at hhq2
  clear he2 hc2 hhp2 hgp2 hhg1 hGf1 hFp2 HP2
  go_wp2_with fail
  refine (fill_any _ 156 _ _ hhq2 (by omega)).mono ?_
  rintro e wf3 ⟨rv3, Hr3, rfl, hr3, hhf3, hgf3⟩
  rw [HRW2.out] at hr3
  obtain ⟨Ar3, qr3, rfl⟩ := hr3.val
  rw [HRL2.out] at hr3 ⊢
  have HR3 := Lib.hid hr3
  have hGf3 := hGp2.trans hgf3
  have hhg3 : Holds wf3 (H2 ++ ((Hr3 ++ Fp2) ++ Fr)) := hhf3.sub (by (repeat' (first | refine sub_append ?_ ?_ | refine sub_cons ?_ ?_ | exact sub_nil)); all_goals first | (intro p hp; simp only [List.mem_append, List.mem_cons, hp, true_or, or_true]) | simp only [List.mem_append, List.mem_cons, true_or, or_true]) (fun b => by simp only [keyc_append, keyc_cons, keyc_nil]; omega)
  obtain ⟨Fg3, hFg3⟩ : ∃ F : HL, F = Hr3 ++ Fp2 := ⟨_, rfl⟩
  have HRF3 := Lib.hid (show FrBytes (Fg3 ++ Fr) (.slice Ar3 156 qr3) raw2 from fun wx hx => by rw [hFg3] at hx; exact HR3.out.at_ (Fr := Fp2 ++ Fr) (by simpa using hx))
  rw [← hFg3] at hhg3
  clear hr3 hhf3 hgf3 hhq2 hGp2 hFg3 HR3
  obtain ⟨c4, hce4, hD4⟩ := (HD2.out).progDark (p := 1) (by omega) raw2 rfl rfl rfl rfl rfl
  have HD4 := Lib.hid (show DSt c4 2 0 (gX2 raw raw2 (min (jn : Int).toNat raw2.length)) gX0 false _ _ ⟨2, 2, (jn : Int), u⟩ from hD4)
  have hP4 := nprogram_full 0 _ 1 (.slice Ar3 156 qr3) raw2 HC2.out (Fr := Fg3 ++ Fr) (hhg3) ((HD2.out).opsLt (by omega)) (HD2.out).bX HRF3.out (by rw [(HD2.out).eZ]; exact HRL2.out)
  rw [show ((1 : Nat) : Int) = 1 from rfl] at hce4
  rw [hce4, show ((0 : Nat) : Int) = 0 from rfl] at hP4
  have HP4 := Lib.hid hP4
  clear hP4 hce4 hD4
  go_wp2_with fail
  refine HP4.out.mono ?_
  rintro e wp4 ⟨G4, ve4, H4, He4, rfl, he4, hc4, hhp4, hgp4⟩
  have HC4 := Lib.hid hc4
  have hGp4 := hGf3.trans hgp4
  obtain ⟨bb4, ss4, rfl, _⟩ := isErrP8 he4 (show (4 : Int) ≠ 0 by decide)
  have HE4 := Lib.hid he4
  obtain ⟨Fr4, hFr4⟩ : ∃ F : HL, F = He4 ++ Fr := ⟨_, rfl⟩
  have hhq4 : Holds wp4 (H4 ++ ((G4 ++ Fg3) ++ Fr4)) := by rw [hFr4]; exact hhp4.sub (by (repeat' (first | refine sub_append ?_ ?_ | refine sub_cons ?_ ?_ | exact sub_nil)); all_goals first | (intro p hp; simp only [List.mem_append, List.mem_cons, hp, true_or, or_true]) | simp only [List.mem_append, List.mem_cons, true_or, or_true]) (fun b => by simp only [keyc_append, keyc_cons, keyc_nil]; omega)
  have HFR4 := Lib.hid hFr4
  obtain ⟨Fp4, hFp4⟩ : ∃ F : HL, F = G4 ++ Fg3 := ⟨_, rfl⟩
  rw [← hFp4] at hhq4
  clear he4 hc4 hhp4 hgp4 hhg3 hGf3 hFp4 HP4 hFr4
  have hP5 := nread_any 0 0 HC4.out (Fr := Fp4 ++ Fr4) hhq4 (Int.le_of_lt (HD4.out.opsLt (by omega)))
  rw [HD4.out.readOff] at hP5
  have HP5 := Lib.hid hP5
  clear hP5
  go_wp2_with fail
  refine HP5.out.mono ?_
  rintro e wp5 ⟨v5, ve5, H5, Hv5, He5, G5, rfl, hb5, he5, hc5, hhp5, hgp5⟩
  obtain ⟨bb5, ss5, rfl, _⟩ := isErrP8 he5 (show (4 : Int) ≠ 0 by decide)
  have HC5 := Lib.hid hc5
  have hGp5 := hGp4.trans hgp5
  obtain ⟨Av5, qv5, rfl⟩ := hb5.val
  have HN1 := Lib.hid (num_any _ 4 He4 (H5 ++ (Hv5 ++ (He5 ++ (G5 ++ (Fp4 ++ Fr))))) wp5 HE4.out (by have := hhp5; rw [HFR4.out] at this; exact this.sub (by (repeat' (first | refine sub_append ?_ ?_ | refine sub_cons ?_ ?_ | exact sub_nil)); all_goals first | (intro p hp; simp only [List.mem_append, List.mem_cons, hp, true_or, or_true]) | simp only [List.mem_append, List.mem_cons, true_or, or_true]) (fun b => by simp only [keyc_append, keyc_cons, keyc_nil]; omega)) (by omega))
  have HN2 := Lib.hid (num_any _ 4 He5 (H5 ++ (Hv5 ++ (G5 ++ (Fp4 ++ Fr4)))) wp5 he5 (hhp5.sub (by (repeat' (first | refine sub_append ?_ ?_ | refine sub_cons ?_ ?_ | exact sub_nil)); all_goals first | (intro p hp; simp only [List.mem_append, List.mem_cons, hp, true_or, or_true]) | simp only [List.mem_append, List.mem_cons, true_or, or_true]) (fun b => by simp only [keyc_append, keyc_cons, keyc_nil]; omega)) (by omega))
  have hhq5 : Holds wp5 (H5 ++ ((Hv5 ++ (He5 ++ (G5 ++ Fp4))) ++ Fr4)) := hhp5.sub (by (repeat' (first | refine sub_append ?_ ?_ | refine sub_cons ?_ ?_ | exact sub_nil)); all_goals first | (intro p hp; simp only [List.mem_append, List.mem_cons, hp, true_or, or_true]) | simp only [List.mem_append, List.mem_cons, true_or, or_true]) (fun b => by simp only [keyc_append, keyc_cons, keyc_nil]; omega)
  obtain ⟨Fp5, hFp5⟩ : ∃ F : HL, F = Hv5 ++ (He5 ++ (G5 ++ Fp4)) := ⟨_, rfl⟩
  rw [← hFp5] at hhq5
  clear hb5 he5 hc5 hhp5 hgp5 hhq4 hGp4 hFp5 HP5
  go_wp2_with fail
  refine HN1.out.mono ?_
  rintro e wx ⟨rfl, rfl⟩
  go_wp2_with fail
  refine HN2.out.mono ?_
  rintro e wx ⟨rfl, rfl⟩
  clear HN1 HN2
  have hP6 := nerase_full 1 _ HC5.out (Fr := Fp5 ++ Fr4) (hhq5) (HD4.out.opsLt (by omega)) HD4.out.bY
  rw [HD4.out.eraseOff, show ((1 : Nat) : Int) = 1 from rfl] at hP6
  have HP6 := Lib.hid hP6
  clear hP6
  go_wp2_with fail
  refine HP6.out.mono ?_
  rintro e wp6 ⟨G6, ve6, H6, He6, rfl, he6, hc6, hhp6, hgp6⟩
  have HC6 := Lib.hid hc6
  have hGp6 := hGp5.trans hgp6
  obtain ⟨bb6, ss6, rfl, _⟩ := isErrP8 he6 (show (4 : Int) ≠ 0 by decide)
  have hhq6 : Holds wp6 (H6 ++ ((He6 ++ (G6 ++ Fp5)) ++ Fr4)) := hhp6.sub (by (repeat' (first | refine sub_append ?_ ?_ | refine sub_cons ?_ ?_ | exact sub_nil)); all_goals first | (intro p hp; simp only [List.mem_append, List.mem_cons, hp, true_or, or_true]) | simp only [List.mem_append, List.mem_cons, true_or, or_true]) (fun b => by simp only [keyc_append, keyc_cons, keyc_nil]; omega)
  have HNM6 := Lib.hid (num_any _ 4 He6 (H6 ++ (G6 ++ (Fp5 ++ Fr4))) wp6 he6 (hhp6.sub (by (repeat' (first | refine sub_append ?_ ?_ | refine sub_cons ?_ ?_ | exact sub_nil)); all_goals first | (intro p hp; simp only [List.mem_append, List.mem_cons, hp, true_or, or_true]) | simp only [List.mem_append, List.mem_cons, true_or, or_true]) (fun b => by simp only [keyc_append, keyc_cons, keyc_nil]; omega)) (by omega))
  obtain ⟨Fp6, hFp6⟩ : ∃ F : HL, F = He6 ++ (G6 ++ Fp5) := ⟨_, rfl⟩
  rw [← hFp6] at hhq6
  clear he6 hc6 hhp6 hgp6 hhq5 hGp5 hFp6 HP6
  go_wp2_with fail
  refine HNM6.out.mono ?_
  rintro e wx ⟨rfl, rfl⟩
  clear HNM6
  have hP7 := nmark_any 1 _ HC6.out (Fr := Fp6 ++ Fr4) (hhq6) (HD4.out.opsLt (by omega)) HD4.out.bY
  rw [HD4.out.markOff, show ((1 : Nat) : Int) = 1 from rfl] at hP7
  have HP7 := Lib.hid hP7
  clear hP7
  go_wp2_with fail
  refine HP7.out.mono ?_
  rintro e wp7 ⟨G7, ve7, H7, He7, rfl, he7, hc7, hhp7, hgp7⟩
  have HC7 := Lib.hid hc7
  have hGp7 := hGp6.trans hgp7
  obtain ⟨bb7, ss7, rfl, _⟩ := isErrP8 he7 (show (4 : Int) ≠ 0 by decide)
  have hhq7 : Holds wp7 (H7 ++ ((He7 ++ (G7 ++ Fp6)) ++ Fr4)) := hhp7.sub (by (repeat' (first | refine sub_append ?_ ?_ | refine sub_cons ?_ ?_ | exact sub_nil)); all_goals first | (intro p hp; simp only [List.mem_append, List.mem_cons, hp, true_or, or_true]) | simp only [List.mem_append, List.mem_cons, true_or, or_true]) (fun b => by simp only [keyc_append, keyc_cons, keyc_nil]; omega)
  have HNM7 := Lib.hid (num_any _ 4 He7 (H7 ++ (G7 ++ (Fp6 ++ Fr4))) wp7 he7 (hhp7.sub (by (repeat' (first | refine sub_append ?_ ?_ | refine sub_cons ?_ ?_ | exact sub_nil)); all_goals first | (intro p hp; simp only [List.mem_append, List.mem_cons, hp, true_or, or_true]) | simp only [List.mem_append, List.mem_cons, true_or, or_true]) (fun b => by simp only [keyc_append, keyc_cons, keyc_nil]; omega)) (by omega))
  obtain ⟨Fp7, hFp7⟩ : ∃ F : HL, F = He7 ++ (G7 ++ Fp6) := ⟨_, rfl⟩
  rw [← hFp7] at hhq7
  clear he7 hc7 hhp7 hgp7 hhq6 hGp6 hFp7 HP7
  go_wp2_with fail
  refine HNM7.out.mono ?_
  rintro e wx ⟨rfl, rfl⟩
  clear HNM7
  go_wp2_with fail
  refine (non_any HC7.out hhq7).mono ?_
  rintro e wx ⟨rfl, rfl⟩
  rw [show _ = false from HD4.out.eo]
  go_wp2_with fail
  refine (nops_any HC7.out hhq7).mono ?_
  rintro e wx ⟨rfl, rfl⟩
  rw [show _ = (2 : Int) from HD4.out.en]
  have hP8 := nboot_any HC7.out (Fr := Fp7 ++ Fr4) hhq7
  rw [if_neg (by rw [show _ = false from HD4.out.eo]; decide)] at hP8
  have HP8 := Lib.hid hP8
  have HD8 := Lib.hid HD4.out.boot
  clear hP8
  go_wp2_with fail
  refine HP8.out.mono ?_
  rintro e wp8 ⟨ve8, H8, He8, rfl, he8, hc8, hhp8, hgp8⟩
  have HC8 := Lib.hid hc8
  have hGp8 := hGp7.trans hgp8
  obtain ⟨rfl, rfl⟩ := isErr0 he8
  have hhq8 : Holds wp8 (H8 ++ (Fp7 ++ Fr4)) := hhp8.sub (by (repeat' (first | refine sub_append ?_ ?_ | refine sub_cons ?_ ?_ | exact sub_nil)); all_goals first | (intro p hp; simp only [List.mem_append, List.mem_cons, hp, true_or, or_true]) | simp only [List.mem_append, List.mem_cons, true_or, or_true]) (fun b => by simp only [keyc_append, keyc_cons, keyc_nil]; omega)
  clear he8 hc8 hhp8 hgp8 hhq7 hGp7 HP8
  obtain ⟨c9, hce9, hD9⟩ := HD8.out.read (p := 1) (by omega) (by show ¬ ((2 : Int) = _); omega)
  have HD9 := Lib.hid (show DSt c9 2 0 (gX2 raw raw2 (min (jn : Int).toNat raw2.length)) gX0 true _ _ ⟨2, 2, (jn : Int), u⟩ from hD9)
  have hP9 := nread_any 0 1 HC8.out (Fr := Fp7 ++ Fr4) hhq8 (Int.le_of_lt (HD8.out.opsLt (by omega)))
  rw [show CM.read _ 0 1 = (c9, (raw2.take jn ++ (blankP 128).drop jn), 0) by have hq := hce9; rw [gX2_p1, show min (jn : Int).toNat raw2.length = jn by have := HRL2.out; omega] at hq; exact hq] at hP9
  have HP9 := Lib.hid hP9
  clear hP9 hce9 hD9
  go_wp2_with fail
  refine HP9.out.mono ?_
  rintro e wp9 ⟨v9, ve9, H9, Hv9, He9, G9, rfl, hb9, he9, hc9, hhp9, hgp9⟩
  obtain ⟨rfl, rfl⟩ := isErr0 he9
  have HC9 := Lib.hid hc9
  have hGp9 := hGp8.trans hgp9
  obtain ⟨Av9, qv9, rfl⟩ := hb9.val
  rw [d1_length HRL2.out hj6] at hb9 ⊢
  have HB9 := Lib.hid hb9
  obtain ⟨Fr9, hFr9⟩ : ∃ F : HL, F = Hv9 ++ Fr4 := ⟨_, rfl⟩
  have hhq9 : Holds wp9 (H9 ++ ((G9 ++ Fp7) ++ Fr9)) := by rw [hFr9]; exact hhp9.sub (by (repeat' (first | refine sub_append ?_ ?_ | refine sub_cons ?_ ?_ | exact sub_nil)); all_goals first | (intro p hp; simp only [List.mem_append, List.mem_cons, hp, true_or, or_true]) | simp only [List.mem_append, List.mem_cons, true_or, or_true]) (fun b => by simp only [keyc_append, keyc_cons, keyc_nil]; omega)
  have HVF9 := Lib.hid (show FrBytes Fr9 (.slice Av9 156 qv9) (raw2.take jn ++ (blankP 128).drop jn) from fun wx hx => by rw [hFr9] at hx; exact HB9.out.at_ hx)
  have HFR9 := Lib.hid hFr9
  obtain ⟨Fp9, hFp9⟩ : ∃ F : HL, F = G9 ++ Fp7 := ⟨_, rfl⟩
  rw [← hFp9] at hhq9
  obtain ⟨_, A5, q5, hv5, hq51, hq52, hrd5⟩ := HVF9.out _ hhq9.right.right
  injection hv5 with hv51 hv52 hv53
  subst hv51 hv53
  rw [d1_length HRL2.out hj6] at hq51 hrd5
  obtain ⟨b5, o5, rfl, _⟩ := hrd5 (by omega)
  unfold maxLen at hq52
  have HCE := Lib.hid (fun (wx : World) (hx : Holds wx Fr9) (j : Nat) (v : Value) (hv : ((raw2.take jn ++ (blankP 128).drop jn).map cellB)[j]? = some v) => show wx.cell? ⟨b5, o5 + j, none⟩ = some v from by
    obtain ⟨_, A8, c8, hv8, _, _, hrd8⟩ := HVF9.out wx hx
    injection hv8 with hv1 _ hv3
    subst hv1
    rw [d1_length HRL2.out hj6] at hrd8
    obtain ⟨b8, o8, hbo, hwc8⟩ := hrd8 (by omega)
    injection hbo with hbo
    injection hbo with hb8 ho8 _
    subst hb8 ho8
    exact hwc8 j v hv)
  clear he9 hc9 hhp9 hgp9 hhq8 hGp8 hFp9 HP9 hb9 HB9 hFr9 hrd5 hv52
  go_wp2_with fail
  go_loopw [15, 16] (fun iv _ wr => DkP H9 Fr9 w iv wr) (fun iv _ _ => 156 - (intOf iv).toNat)
  case atStart => exact ⟨0, Fp9, by omega, rfl, hhq9, hGp9⟩
  case round =>
    obtain ⟨j, F2, hj, rfl, hHr, hgr⟩ := hrel
    clear hhq9 hGp9
    by_cases hlt : j < 156
    · have hlti : (j : Int) < 156 := by omega
      by_cases hjb : j < jn
      · have hjbi : (j : Int) < (jn : Int) := by omega
        have hus : raw2[j]? = some (raw2[j]'(by have := HRL2.out; omega)) := List.getElem?_eq_getElem _
        generalize raw2[j]'(by have := HRL2.out; omega) = x at hus
        have HUS := Lib.hid hus
        have HHR := Lib.hid hHr
        clear hus hHr
        go_wp2_with fail
        refine (fill_any _ 156 _ _ HHR.out (by omega)).mono ?_
        rintro e w7 ⟨rv7, Hr7, rfl, hr7, hH7, hg7⟩
        rw [HRW2.out] at hr7
        obtain ⟨Ar7, qr7, rfl⟩ := hr7.val
        have hb7 := hr7.at_ hH7
        rw [HRL2.out] at hr7 ⊢
        obtain ⟨_, A7, q7, hv7, hq71, hq72, hrd7⟩ := hb7
        rw [HRL2.out] at hv7 hq71 hrd7
        injection hv7 with hv71 hv72 hv73
        subst hv71 hv73
        obtain ⟨b7, o7, rfl, hcl7⟩ := hrd7 (by omega)
        unfold maxLen at hq72
        have z0 := hcl7 j (.int .u8 (x.toNat : Int)) (by rw [List.getElem?_map, HUS.out]; rfl)
        have y0 := HCE.out w7 (hH7.right.right.right) j (.int .u8 (x.toNat : Int)) (d1_lo HRL2.out hjb hj6 HUS.out)
        have hfin : DkP H9 Fr9 w (.int .i64 ((j : Int) + 1)) w7 := ⟨j + 1, Hr7 ++ F2, by omega, by go_num, hH7.sub (by (repeat' (first | refine sub_append ?_ ?_ | refine sub_cons ?_ ?_ | exact sub_nil)); all_goals first | (intro p hp; simp only [List.mem_append, List.mem_cons, hp, true_or, or_true]) | simp only [List.mem_append, List.mem_cons, true_or, or_true]) (fun b => by simp only [keyc_append, keyc_cons, keyc_nil]; omega), hgr.trans hg7⟩
        have HFIN := Lib.hid hfin
        clear hrd7 hcl7 hr7 hH7 hg7 hgr hfin hv72
        go_wp2_with fail
        exact ⟨HFIN.out, by simp [intOf]; omega⟩
      · have hjbi : ¬ (j : Int) < (jn : Int) := by omega
        have y0 := HCE.out wr hHr.right.right j (.int .u8 255) (d1_hi HRL2.out hjb hj6 hlt)
        go_wp2_with fail
        exact ⟨⟨j + 1, F2, by omega, by go_num, hHr, hgr⟩, by simp [intOf]; omega⟩
    · obtain rfl : j = 156 := by omega
      go_wp2_with fail
      refine (nnext_any 0 HC9.out hHr).mono ?_
      rintro e wx ⟨rfl, rfl⟩
      rw [show CM.nextOf c9 0 = (2 : Int) from HD9.out.nextOf]
      go_wp2_with fail
      refine (nwear_any 0 HC9.out hHr).mono ?_
      rintro e wx ⟨rfl, rfl⟩
      rw [show CM.wearOf c9 0 = (0 : Int) from HD9.out.wearOf]
      go_wp2_with fail
      refine (nmisuse_any HC9.out hHr).mono ?_
      rintro e wx ⟨rfl, rfl⟩
      rw [show _ = (0 : Int) from HD9.out.em]
      go_wp2_with fail
      refine (awake8_any _ _ hHr).mono ?_
      rintro e wa ⟨rfl, hHa, hga⟩
      go_wp2_with fail
      go_ret
      exact ⟨rfl, by have := hHa.right.right; rw [HFR9.out, HFR4.out] at this; exact this.right.right, hgr.trans hga⟩
end Go.Proofs.Ytndalabilfdgkaa
