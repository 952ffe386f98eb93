/-
  NandDark: the walk, of an erase.
-/
import Derived.Test.YtndalabilfdgkaaL8F
namespace Go.Proofs.Ytndalabilfdgkaa
open Go.RowKit
set_option linter.unusedSimpArgs false
set_option linter.unusedVariables false

def DkE (H R : HL) (w : World) (iv : Value) (wr : World) : Prop := ∃ (j : Nat) (F2 : HL), j ≤ 156 ∧ iv = .int .i64 j ∧ Holds wr (H ++ (F2 ++ R)) ∧ Grew w wr
set_option maxRecDepth 100000 in
set_option maxHeartbeats 8000000 in
theorem ndark_erase (n by0 : Int) (u : UInt8) (w : World) :
    Calls Try.prog 5 #[.int .i64 n, .int .i64 by0, .int .u8 (u.toNat : Int), .bool true] w (RetFr (.bool true) w (allOf w)) := by
  have hH := holds_all w
  generalize allOf w = Fr at *
  have k1 := err_eq
  have k2 := nil_eq
  have k3 := err_ne
  have k4 := nil_ne
  have hq := low_bd by0 157 (by omega) (by omega)
  go_enter Try.func5, Try.ntmps5
  go_wp2_with fail
  refine (low_any by0 157 _ (by omega) (by omega)).mono ?_
  rintro e wx ⟨rfl, rfl⟩
  obtain ⟨jn, hjn⟩ := Int.eq_ofNat_of_zero_le hq.1
  rw [hjn] at hq ⊢
  clear hjn
  have hj6 : jn ≤ 156 := by omega
  have HM := Lib.hid (show Mi.ok ⟨2, 2, (jn : Int), u⟩ from ⟨show (1 : Int) ≤ 2 by decide, show (2 : Int) ≤ 1073741824 by decide, .inr rfl, hq.1, by show (jn : Int) ≤ 65536; omega⟩)
  have hHA := hH.alloc (.cells #[.int .i64 2, .int .i64 2, .int .i64 (jn : Int), .int .u8 (u.toNat : Int)] 47)
  have hGA := (Grew.refl w).alloc (.cells #[.int .i64 2, .int .i64 2, .int .i64 (jn : Int), .int .u8 (u.toNat : Int)] 47)
  have HF := Lib.hid (show FrMs ((w.heap.size, .cells #[.int .i64 2, .int .i64 2, .int .i64 (jn : Int), .int .u8 (u.toNat : Int)] 47) :: Fr) (.slice (some ⟨w.heap.size, 0, none⟩) 1 1) [⟨2, 2, (jn : Int), u⟩] from fun wx hx => IsRow.reads (ms_one w.heap.size ⟨2, 2, (jn : Int), u⟩) (Fr := Fr) (by simpa [cellB] using hx))
  have HN := Lib.hid (nnew_good 2 2 128 (.slice none 0 0) (.slice (some ⟨w.heap.size, 0, none⟩) 1 1) [] [⟨2, 2, (jn : Int), u⟩] _ _ hHA (fun wx hx => ⟨rfl, none, 0, rfl, Nat.le_refl _, by simp [maxLen], fun h => absurd h (by simp)⟩)
    HF.out (fun wx F hx => may_one _ _ wx _ (fun wy hy => HF.out wy hy.right) hx HM.out) (by omega) (by omega) (by omega) (by omega) (by omega) (by omega) (by simp) (by intro m hm; rw [List.mem_singleton.1 hm]; exact HM.out) (by simp))
  clear HF hHA
  go_wp2_with fail
  refine HN.out.mono ?_
  rintro e w1 ⟨dv, H0, rfl, ⟨b, g, cap, mv, rfl, hc0⟩, hH1, hg1⟩
  have HC0 := Lib.hid hc0
  have HD0 := Lib.hid (dst_new (P := 2) (k := 0) (M := ⟨2, 2, (jn : Int), u⟩) (by omega))
  have hG0 := hGA.trans hg1
  have hh0 : Holds w1 (H0 ++ ([(w.heap.size, .cells #[.int .i64 2, .int .i64 2, .int .i64 (jn : Int), .int .u8 (u.toNat : Int)] 47)] ++ Fr)) := hH1.sub (by (repeat' (first | refine sub_append ?_ ?_ | refine sub_cons ?_ ?_ | exact sub_nil)); all_goals first | (intro p hp; simp only [List.mem_append, List.mem_cons, hp, true_or, or_true]) | simp only [List.mem_append, List.mem_cons, true_or, or_true]) (fun b => by simp only [keyc_append, keyc_cons, keyc_nil]; omega)
  clear hc0 HN hH hH1 hGA hg1
  obtain ⟨F0, hF0⟩ : ∃ F0 : HL, F0 = [(w.heap.size, .cells #[.int .i64 2, .int .i64 2, .int .i64 (jn : Int), .int .u8 (u.toNat : Int)] 47)] := ⟨_, rfl⟩
  rw [← hF0] at hh0
  clear hF0
  obtain ⟨raw, hraw⟩ : ∃ raw, raw = fillL n 156 := ⟨_, rfl⟩
  have HRW := Lib.hid hraw.symm
  have HRL := Lib.hid (show raw.length = 156 by rw [hraw]; simp [fillL])
  clear hraw
  obtain ⟨raw2, hraw2⟩ : ∃ raw2, raw2 = fillL (wrap64 (n + 1)) 156 := ⟨_, rfl⟩
  have HRW2 := Lib.hid hraw2.symm
  have HRL2 := Lib.hid (show raw2.length = 156 by rw [hraw2]; simp [fillL])
  clear hraw2
  go_wp2_with fail
  refine (fill_any _ 156 _ _ hh0 (by omega)).mono ?_
  rintro e wf1 ⟨rv1, Hr1, rfl, hr1, hhf1, hgf1⟩
  rw [HRW.out] at hr1
  obtain ⟨Ar1, qr1, rfl⟩ := hr1.val
  rw [HRL.out] at hr1 ⊢
  have HR1 := Lib.hid hr1
  have hGf1 := hG0.trans hgf1
  have hhg1 : Holds wf1 (H0 ++ ((Hr1 ++ F0) ++ Fr)) := hhf1.sub (by (repeat' (first | refine sub_append ?_ ?_ | refine sub_cons ?_ ?_ | exact sub_nil)); all_goals first | (intro p hp; simp only [List.mem_append, List.mem_cons, hp, true_or, or_true]) | simp only [List.mem_append, List.mem_cons, true_or, or_true]) (fun b => by simp only [keyc_append, keyc_cons, keyc_nil]; omega)
  obtain ⟨Fg1, hFg1⟩ : ∃ F : HL, F = Hr1 ++ F0 := ⟨_, rfl⟩
  have HRF1 := Lib.hid (show FrBytes (Fg1 ++ Fr) (.slice Ar1 156 qr1) raw from fun wx hx => by rw [hFg1] at hx; exact HR1.out.at_ (Fr := F0 ++ Fr) (by simpa using hx))
  rw [← hFg1] at hhg1
  clear hr1 hhf1 hgf1 hh0 hG0 hFg1 HR1
  obtain ⟨c2, hce2, hD2⟩ := (HD0.out).progGood (p := 0) (by omega) raw (by show ¬ ((2 : Int) = _); omega) rfl rfl rfl
  have HD2 := Lib.hid (show DSt c2 2 0 (gX1 raw) gX0 true _ _ ⟨2, 2, (jn : Int), u⟩ from hD2)
  have hP2 := nprogram_full 0 _ 0 (.slice Ar1 156 qr1) raw HC0.out (Fr := Fg1 ++ Fr) (hhg1) ((HD0.out).opsLt (by omega)) (HD0.out).bX HRF1.out (by rw [(HD0.out).eZ]; exact HRL.out)
  rw [show ((0 : Nat) : Int) = 0 from rfl] at hce2
  rw [hce2, show ((0 : Nat) : Int) = 0 from rfl] at hP2
  have HP2 := Lib.hid hP2
  clear hP2 hce2 hD2
  go_wp2_with fail
  refine HP2.out.mono ?_
  rintro e wp2 ⟨G2, ve2, H2, He2, rfl, he2, hc2, hhp2, hgp2⟩
  have HC2 := Lib.hid hc2
  have hGp2 := hGf1.trans hgp2
  obtain ⟨rfl, rfl⟩ := isErr0 he2
  have hhq2 : Holds wp2 (H2 ++ ((G2 ++ Fg1) ++ Fr)) := hhp2.sub (by (repeat' (first | refine sub_append ?_ ?_ | refine sub_cons ?_ ?_ | exact sub_nil)); all_goals first | (intro p hp; simp only [List.mem_append, List.mem_cons, hp, true_or, or_true]) | simp only [List.mem_append, List.mem_cons, true_or, or_true]) (fun b => by simp only [keyc_append, keyc_cons, keyc_nil]; omega)
  obtain ⟨Fp2, hFp2⟩ : ∃ F : HL, F = G2 ++ Fg1 := ⟨_, rfl⟩
  rw [← hFp2] at hhq2
  clear he2 hc2 hhp2 hgp2 hhg1 hGf1 hFp2 HP2
  obtain ⟨c3, hce3, hD3⟩ := (HD2.out).eraseDark rfl rfl rfl rfl
  have HD3 := Lib.hid (show DSt c3 2 0 (gE2 raw u) gX0 false _ _ ⟨2, 2, (jn : Int), u⟩ from hD3)
  have hP3 := nerase_full 0 _ HC2.out (Fr := Fp2 ++ Fr) (hhq2) ((HD2.out).opsLt (by omega)) (HD2.out).bX
  skip
  rw [hce3, show ((0 : Nat) : Int) = 0 from rfl] at hP3
  have HP3 := Lib.hid hP3
  clear hP3 hce3 hD3
  go_wp2_with fail
  refine HP3.out.mono ?_
  rintro e wp3 ⟨G3, ve3, H3, He3, rfl, he3, hc3, hhp3, hgp3⟩
  have HC3 := Lib.hid hc3
  have hGp3 := hGp2.trans hgp3
  obtain ⟨bb3, ss3, rfl, _⟩ := isErrP8 he3 (show (4 : Int) ≠ 0 by decide)
  have HE3 := Lib.hid he3
  obtain ⟨Fr3, hFr3⟩ : ∃ F : HL, F = He3 ++ Fr := ⟨_, rfl⟩
  have hhq3 : Holds wp3 (H3 ++ ((G3 ++ Fp2) ++ Fr3)) := by rw [hFr3]; exact hhp3.sub (by (repeat' (first | refine sub_append ?_ ?_ | refine sub_cons ?_ ?_ | exact sub_nil)); all_goals first | (intro p hp; simp only [List.mem_append, List.mem_cons, hp, true_or, or_true]) | simp only [List.mem_append, List.mem_cons, true_or, or_true]) (fun b => by simp only [keyc_append, keyc_cons, keyc_nil]; omega)
  have HFR3 := Lib.hid hFr3
  obtain ⟨Fp3, hFp3⟩ : ∃ F : HL, F = G3 ++ Fp2 := ⟨_, rfl⟩
  rw [← hFp3] at hhq3
  clear he3 hc3 hhp3 hgp3 hhq2 hGp2 hFp3 HP3 hFr3
  have hP4 := nread_any 0 0 HC3.out (Fr := Fp3 ++ Fr3) hhq3 (Int.le_of_lt (HD3.out.opsLt (by omega)))
  rw [HD3.out.readOff] at hP4
  have HP4 := Lib.hid hP4
  clear hP4
  go_wp2_with fail
  refine HP4.out.mono ?_
  rintro e wp4 ⟨v4, ve4, H4, Hv4, He4, G4, rfl, hb4, he4, hc4, hhp4, hgp4⟩
  obtain ⟨bb4, ss4, rfl, _⟩ := isErrP8 he4 (show (4 : Int) ≠ 0 by decide)
  have HC4 := Lib.hid hc4
  have hGp4 := hGp3.trans hgp4
  obtain ⟨Av4, qv4, rfl⟩ := hb4.val
  have HN1 := Lib.hid (num_any _ 4 He3 (H4 ++ (Hv4 ++ (He4 ++ (G4 ++ (Fp3 ++ Fr))))) wp4 HE3.out (by have := hhp4; rw [HFR3.out] at this; exact this.sub (by (repeat' (first | refine sub_append ?_ ?_ | refine sub_cons ?_ ?_ | exact sub_nil)); all_goals first | (intro p hp; simp only [List.mem_append, List.mem_cons, hp, true_or, or_true]) | simp only [List.mem_append, List.mem_cons, true_or, or_true]) (fun b => by simp only [keyc_append, keyc_cons, keyc_nil]; omega)) (by omega))
  have HN2 := Lib.hid (num_any _ 4 He4 (H4 ++ (Hv4 ++ (G4 ++ (Fp3 ++ Fr3)))) wp4 he4 (hhp4.sub (by (repeat' (first | refine sub_append ?_ ?_ | refine sub_cons ?_ ?_ | exact sub_nil)); all_goals first | (intro p hp; simp only [List.mem_append, List.mem_cons, hp, true_or, or_true]) | simp only [List.mem_append, List.mem_cons, true_or, or_true]) (fun b => by simp only [keyc_append, keyc_cons, keyc_nil]; omega)) (by omega))
  have hhq4 : Holds wp4 (H4 ++ ((Hv4 ++ (He4 ++ (G4 ++ Fp3))) ++ Fr3)) := hhp4.sub (by (repeat' (first | refine sub_append ?_ ?_ | refine sub_cons ?_ ?_ | exact sub_nil)); all_goals first | (intro p hp; simp only [List.mem_append, List.mem_cons, hp, true_or, or_true]) | simp only [List.mem_append, List.mem_cons, true_or, or_true]) (fun b => by simp only [keyc_append, keyc_cons, keyc_nil]; omega)
  obtain ⟨Fp4, hFp4⟩ : ∃ F : HL, F = Hv4 ++ (He4 ++ (G4 ++ Fp3)) := ⟨_, rfl⟩
  rw [← hFp4] at hhq4
  clear hb4 he4 hc4 hhp4 hgp4 hhq3 hGp3 hFp4 HP4
  go_wp2_with fail
  refine HN1.out.mono ?_
  rintro e wx ⟨rfl, rfl⟩
  go_wp2_with fail
  refine HN2.out.mono ?_
  rintro e wx ⟨rfl, rfl⟩
  clear HN1 HN2
  have hP5 := nerase_full 1 _ HC4.out (Fr := Fp4 ++ Fr3) (hhq4) (HD3.out.opsLt (by omega)) HD3.out.bY
  rw [HD3.out.eraseOff, show ((1 : Nat) : Int) = 1 from rfl] at hP5
  have HP5 := Lib.hid hP5
  clear hP5
  go_wp2_with fail
  refine HP5.out.mono ?_
  rintro e wp5 ⟨G5, ve5, H5, He5, rfl, he5, hc5, hhp5, hgp5⟩
  have HC5 := Lib.hid hc5
  have hGp5 := hGp4.trans hgp5
  obtain ⟨bb5, ss5, rfl, _⟩ := isErrP8 he5 (show (4 : Int) ≠ 0 by decide)
  have hhq5 : Holds wp5 (H5 ++ ((He5 ++ (G5 ++ Fp4)) ++ Fr3)) := hhp5.sub (by (repeat' (first | refine sub_append ?_ ?_ | refine sub_cons ?_ ?_ | exact sub_nil)); all_goals first | (intro p hp; simp only [List.mem_append, List.mem_cons, hp, true_or, or_true]) | simp only [List.mem_append, List.mem_cons, true_or, or_true]) (fun b => by simp only [keyc_append, keyc_cons, keyc_nil]; omega)
  have HNM5 := Lib.hid (num_any _ 4 He5 (H5 ++ (G5 ++ (Fp4 ++ Fr3))) wp5 he5 (hhp5.sub (by (repeat' (first | refine sub_append ?_ ?_ | refine sub_cons ?_ ?_ | exact sub_nil)); all_goals first | (intro p hp; simp only [List.mem_append, List.mem_cons, hp, true_or, or_true]) | simp only [List.mem_append, List.mem_cons, true_or, or_true]) (fun b => by simp only [keyc_append, keyc_cons, keyc_nil]; omega)) (by omega))
  obtain ⟨Fp5, hFp5⟩ : ∃ F : HL, F = He5 ++ (G5 ++ Fp4) := ⟨_, rfl⟩
  rw [← hFp5] at hhq5
  clear he5 hc5 hhp5 hgp5 hhq4 hGp4 hFp5 HP5
  go_wp2_with fail
  refine HNM5.out.mono ?_
  rintro e wx ⟨rfl, rfl⟩
  clear HNM5
  have hP6 := nmark_any 1 _ HC5.out (Fr := Fp5 ++ Fr3) (hhq5) (HD3.out.opsLt (by omega)) HD3.out.bY
  rw [HD3.out.markOff, show ((1 : Nat) : Int) = 1 from rfl] at hP6
  have HP6 := Lib.hid hP6
  clear hP6
  go_wp2_with fail
  refine HP6.out.mono ?_
  rintro e wp6 ⟨G6, ve6, H6, He6, rfl, he6, hc6, hhp6, hgp6⟩
  have HC6 := Lib.hid hc6
  have hGp6 := hGp5.trans hgp6
  obtain ⟨bb6, ss6, rfl, _⟩ := isErrP8 he6 (show (4 : Int) ≠ 0 by decide)
  have hhq6 : Holds wp6 (H6 ++ ((He6 ++ (G6 ++ Fp5)) ++ Fr3)) := hhp6.sub (by (repeat' (first | refine sub_append ?_ ?_ | refine sub_cons ?_ ?_ | exact sub_nil)); all_goals first | (intro p hp; simp only [List.mem_append, List.mem_cons, hp, true_or, or_true]) | simp only [List.mem_append, List.mem_cons, true_or, or_true]) (fun b => by simp only [keyc_append, keyc_cons, keyc_nil]; omega)
  have HNM6 := Lib.hid (num_any _ 4 He6 (H6 ++ (G6 ++ (Fp5 ++ Fr3))) wp6 he6 (hhp6.sub (by (repeat' (first | refine sub_append ?_ ?_ | refine sub_cons ?_ ?_ | exact sub_nil)); all_goals first | (intro p hp; simp only [List.mem_append, List.mem_cons, hp, true_or, or_true]) | simp only [List.mem_append, List.mem_cons, true_or, or_true]) (fun b => by simp only [keyc_append, keyc_cons, keyc_nil]; omega)) (by omega))
  obtain ⟨Fp6, hFp6⟩ : ∃ F : HL, F = He6 ++ (G6 ++ Fp5) := ⟨_, rfl⟩
  rw [← hFp6] at hhq6
  clear he6 hc6 hhp6 hgp6 hhq5 hGp5 hFp6 HP6
  go_wp2_with fail
  refine HNM6.out.mono ?_
  rintro e wx ⟨rfl, rfl⟩
  clear HNM6
  go_wp2_with fail
  refine (non_any HC6.out hhq6).mono ?_
  rintro e wx ⟨rfl, rfl⟩
  rw [show _ = false from HD3.out.eo]
  go_wp2_with fail
  refine (nops_any HC6.out hhq6).mono ?_
  rintro e wx ⟨rfl, rfl⟩
  rw [show _ = (2 : Int) from HD3.out.en]
  have hP7 := nboot_any HC6.out (Fr := Fp6 ++ Fr3) hhq6
  rw [if_neg (by rw [show _ = false from HD3.out.eo]; decide)] at hP7
  have HP7 := Lib.hid hP7
  have HD7 := Lib.hid HD3.out.boot
  clear hP7
  go_wp2_with fail
  refine HP7.out.mono ?_
  rintro e wp7 ⟨ve7, H7, He7, rfl, he7, hc7, hhp7, hgp7⟩
  have HC7 := Lib.hid hc7
  have hGp7 := hGp6.trans hgp7
  obtain ⟨rfl, rfl⟩ := isErr0 he7
  have hhq7 : Holds wp7 (H7 ++ (Fp6 ++ Fr3)) := hhp7.sub (by (repeat' (first | refine sub_append ?_ ?_ | refine sub_cons ?_ ?_ | exact sub_nil)); all_goals first | (intro p hp; simp only [List.mem_append, List.mem_cons, hp, true_or, or_true]) | simp only [List.mem_append, List.mem_cons, true_or, or_true]) (fun b => by simp only [keyc_append, keyc_cons, keyc_nil]; omega)
  clear he7 hc7 hhp7 hgp7 hhq6 hGp6 HP7
  obtain ⟨c8, hce8, hD8⟩ := HD7.out.read (p := 1) (by omega) (by show ¬ ((2 : Int) = _); omega)
  have HD8 := Lib.hid (show DSt c8 2 0 (gE2 raw u) gX0 true _ _ ⟨2, 2, (jn : Int), u⟩ from hD8)
  have hP8 := nread_any 0 1 HC7.out (Fr := Fp6 ++ Fr3) hhq7 (Int.le_of_lt (HD7.out.opsLt (by omega)))
  rw [show CM.read _ 0 1 = (c8, (List.replicate 156 u), 0) by have hq := hce8; rw [gE2_p1] at hq; exact hq] at hP8
  have HP8 := Lib.hid hP8
  clear hP8 hce8 hD8
  go_wp2_with fail
  refine HP8.out.mono ?_
  rintro e wp8 ⟨v8, ve8, H8, Hv8, He8, G8, rfl, hb8, he8, hc8, hhp8, hgp8⟩
  obtain ⟨rfl, rfl⟩ := isErr0 he8
  have HC8 := Lib.hid hc8
  have hGp8 := hGp7.trans hgp8
  obtain ⟨Av8, qv8, rfl⟩ := hb8.val
  rw [List.length_replicate] at hb8 ⊢
  have HB8 := Lib.hid hb8
  obtain ⟨Fr8, hFr8⟩ : ∃ F : HL, F = Hv8 ++ Fr3 := ⟨_, rfl⟩
  have hhq8 : Holds wp8 (H8 ++ ((G8 ++ Fp6) ++ Fr8)) := by rw [hFr8]; exact hhp8.sub (by (repeat' (first | refine sub_append ?_ ?_ | refine sub_cons ?_ ?_ | exact sub_nil)); all_goals first | (intro p hp; simp only [List.mem_append, List.mem_cons, hp, true_or, or_true]) | simp only [List.mem_append, List.mem_cons, true_or, or_true]) (fun b => by simp only [keyc_append, keyc_cons, keyc_nil]; omega)
  have HVF8 := Lib.hid (show FrBytes Fr8 (.slice Av8 156 qv8) (List.replicate 156 u) from fun wx hx => by rw [hFr8] at hx; exact HB8.out.at_ hx)
  have HFR8 := Lib.hid hFr8
  obtain ⟨Fp8, hFp8⟩ : ∃ F : HL, F = G8 ++ Fp6 := ⟨_, rfl⟩
  rw [← hFp8] at hhq8
  obtain ⟨_, A5, q5, hv5, hq51, hq52, hrd5⟩ := HVF8.out _ hhq8.right.right
  injection hv5 with hv51 hv52 hv53
  subst hv51 hv53
  rw [List.length_replicate] at hq51 hrd5
  obtain ⟨b5, o5, rfl, _⟩ := hrd5 (by omega)
  unfold maxLen at hq52
  have HCE := Lib.hid (fun (wx : World) (hx : Holds wx Fr8) (j : Nat) (v : Value) (hv : ((List.replicate 156 u).map cellB)[j]? = some v) => show wx.cell? ⟨b5, o5 + j, none⟩ = some v from by
    obtain ⟨_, A8, c8, hv8, _, _, hrd8⟩ := HVF8.out wx hx
    injection hv8 with hv1 _ hv3
    subst hv1
    rw [List.length_replicate] at hrd8
    obtain ⟨b8, o8, hbo, hwc8⟩ := hrd8 (by omega)
    injection hbo with hbo
    injection hbo with hb8 ho8 _
    subst hb8 ho8
    exact hwc8 j v hv)
  clear he8 hc8 hhp8 hgp8 hhq7 hGp7 hFp8 HP8 hb8 HB8 hFr8 hrd5 hv52
  go_wp2_with fail
  go_loopw [15, 16] (fun iv _ wr => DkE H8 Fr8 w iv wr) (fun iv _ _ => 156 - (intOf iv).toNat)
  case atStart => exact ⟨0, Fp8, by omega, rfl, hhq8, hGp8⟩
  case round =>
    obtain ⟨j, F2, hj, rfl, hHr, hgr⟩ := hrel
    clear hhq8 hGp8
    by_cases hlt : j < 156
    · have hlti : (j : Int) < 156 := by omega
      have y0 := HCE.out wr hHr.right.right j (.int .u8 (u.toNat : Int)) (by rw [List.getElem?_map, List.getElem?_replicate, if_pos hlt]; rfl)
      go_wp2_with fail
      exact ⟨⟨j + 1, F2, by omega, by go_num, hHr, hgr⟩, by simp [intOf]; omega⟩
    · obtain rfl : j = 156 := by omega
      by_cases hff : u = 255
      · subst hff
        go_wp2_with fail
        refine (nnext_any 0 HC8.out hHr).mono ?_
        rintro e wx ⟨rfl, rfl⟩
        rw [show CM.nextOf c8 0 = (0 : Int) from HD8.out.nextOf]
        go_wp2_with fail
        refine (nwear_any 0 HC8.out hHr).mono ?_
        rintro e wx ⟨rfl, rfl⟩
        rw [show CM.wearOf c8 0 = (1 : Int) from HD8.out.wearOf]
        go_wp2_with fail
        refine (nmisuse_any HC8.out hHr).mono ?_
        rintro e wx ⟨rfl, rfl⟩
        rw [show _ = (0 : Int) from HD8.out.em]
        go_wp2_with fail
        refine (awake8_any _ _ hHr).mono ?_
        rintro e wa ⟨rfl, hHa, hga⟩
        go_wp2_with fail
        go_ret
        exact ⟨rfl, by have := hHa.right.right; rw [HFR8.out, HFR3.out] at this; exact this.right.right, hgr.trans hga⟩
      · have hfe : ((u.toNat : Int) == 255) = false := by
          simp; intro h; exact hff (UInt8.toNat.inj (by simpa using (show u.toNat = 255 by omega)))
        have HFF := Lib.hid hff; clear hff
        go_wp2_with fail
        refine (nnext_any 0 HC8.out hHr).mono ?_
        rintro e wx ⟨rfl, rfl⟩
        rw [show CM.nextOf c8 0 = (2 : Int) from by have h0 := HD8.out.nextOf; rw [show ((0 : Nat) : Int) = 0 from rfl] at h0; rw [h0]; show (if u = 255 then 0 else ((2 : Nat) : Int)) = 2; rw [if_neg HFF.out]; rfl]
        go_wp2_with fail
        refine (nwear_any 0 HC8.out hHr).mono ?_
        rintro e wx ⟨rfl, rfl⟩
        rw [show CM.wearOf c8 0 = (1 : Int) from HD8.out.wearOf]
        go_wp2_with fail
        refine (nmisuse_any HC8.out hHr).mono ?_
        rintro e wx ⟨rfl, rfl⟩
        rw [show _ = (0 : Int) from HD8.out.em]
        go_wp2_with fail
        refine (awake8_any _ _ hHr).mono ?_
        rintro e wa ⟨rfl, hHa, hga⟩
        go_wp2_with fail
        go_ret
        exact ⟨rfl, by have := hHa.right.right; rw [HFR8.out, HFR3.out] at this; exact this.right.right, hgr.trans hga⟩
end Go.Proofs.Ytndalabilfdgkaa
