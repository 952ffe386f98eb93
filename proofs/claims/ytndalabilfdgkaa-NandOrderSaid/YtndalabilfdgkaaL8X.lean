/-
  NandOrder: the walk.
-/
import Derived.Test.YtndalabilfdgkaaL8O
namespace Go.Proofs.Ytndalabilfdgkaa
open Go.RowKit
set_option linter.unusedSimpArgs false
set_option linter.unusedVariables false

def OTo (b g cap : Nat) (mv : Value) (P L : Nat) (w : World) (Fr : HL) (badv goodv iv : Value) (wr : World) : Prop :=
  ∃ (k : Nat) (c : CM) (H F2 : HL), k ≤ L ∧ iv = .int .i64 k ∧ badv = .int .i64 c.misuse ∧ goodv = .int .i64 c.programs ∧ OInv c P k 0 (100 * (k : Int)) ∧ ChipAt b g cap mv c H ∧ Holds wr (H ++ (F2 ++ Fr)) ∧ Grew w wr
def OTry (b g cap : Nat) (mv : Value) (P k n : Nat) (w : World) (Fr : HL) (badv goodv iv : Value) (wr : World) : Prop :=
  ∃ (i X : Nat) (c : CM) (H F2 : HL), i ≤ n ∧ iv = .int .i64 i ∧ badv = .int .i64 c.misuse ∧ goodv = .int .i64 c.programs ∧ OInv c P k X (100 * (k : Int) + i) ∧ ChipAt b g cap mv c H ∧ Holds wr (H ++ (F2 ++ Fr)) ∧ Grew w wr
def ORest (b g cap : Nat) (mv : Value) (P k : Nat) (m0 D : Int) (w : World) (Fr : HL) (goodv : Value) (wr : World) : Prop :=
  ∃ (X : Nat) (c : CM) (H F2 : HL), X ≤ P ∧ c.misuse = m0 ∧ goodv = .int .i64 ((X : Int) + D) ∧ c.programs = (X : Int) + D ∧ OInv c P k X (100 * (k : Int) + 30 + X) ∧ ChipAt b g cap mv c H ∧ Holds wr (H ++ (F2 ++ Fr)) ∧ Grew w wr
def ORead (b g cap : Nat) (mv : Value) (P k : Nat) (m0 p0 : Int) (w : World) (Fr : HL) (iv : Value) (wr : World) : Prop :=
  ∃ (p : Nat) (c : CM) (H F2 : HL), p ≤ P ∧ iv = .int .i64 p ∧ c.misuse = m0 ∧ c.programs = p0 ∧ OInv c P k P (100 * (k : Int) + 40 + p) ∧ ChipAt b g cap mv c H ∧ Holds wr (H ++ (F2 ++ Fr)) ∧ Grew w wr

set_option maxRecDepth 100000 in
set_option maxHeartbeats 8000000 in
theorem norder_walk (pg : Int) (v : Value) (ts : List Int) (lv : Int) (w : World) (hv : NumsAt w v ts) :
    Calls Try.prog 4 #[.int .i64 pg, v, .int .i64 lv] w (RetFr (.bool true) w (allOf w)) := by
  have hH := holds_all w
  have HAC := Lib.hid (fun (wx : World) (h : Holds wx (allOf w)) => ReadsAt.keep hv (w' := wx) (fun p u hp => all_cell (H := []) (by simpa using h) hp))
  obtain ⟨_, A, c, rfl, hc1, hc2, _⟩ := hv
  generalize allOf w = Fr at *
  unfold maxLen at hc2
  have k1 := err_eq
  have k2 := nil_eq
  have k3 := err_ne
  have k4 := nil_ne
  have hp := low_bd pg 8 (by omega) (by omega)
  have hq := low_bd lv 4 (by omega) (by omega)
  go_enter Try.func4, Try.ntmps4
  by_cases h8 : 30 < ts.length
  · have h8i : (30 : Int) < (ts.length : Int) := by omega
    go_wp2_with fail
    refine (awake8_any _ _ hH).mono ?_
    rintro e wa ⟨rfl, hHa, hga⟩
    go_wp2_with fail
    go_ret
    exact ⟨rfl, hHa, hga⟩
  · have h8i : ¬ (30 : Int) < (ts.length : Int) := by omega
    go_wp2_with fail
    refine (low_any pg 8 _ (by omega) (by omega)).mono ?_
    rintro e w1 ⟨rfl, rfl⟩
    obtain ⟨p1, hp1⟩ := Int.eq_ofNat_of_zero_le hp.1
    rw [hp1] at hp ⊢
    obtain ⟨P, hPe⟩ : ∃ P, P = p1 + 1 := ⟨_, rfl⟩
    have HPe := Lib.hid (show (1 : Int) + (p1 : Int) = (P : Int) by omega)
    have HPw := Lib.hid (show wrap64 ((1 : Int) + (p1 : Int)) = (P : Int) by unfold wrap64; omega)
    have hP1 : 1 ≤ P := by omega
    have hP8 : P ≤ 8 := by omega
    clear hp1 hPe hp
    go_wp2_with fail
    refine (low_any lv 4 _ (by omega) (by omega)).mono ?_
    rintro e w1 ⟨rfl, rfl⟩
    obtain ⟨q1, hq1⟩ := Int.eq_ofNat_of_zero_le hq.1
    rw [hq1] at hq ⊢
    obtain ⟨L, hLe⟩ : ∃ L, L = q1 + 1 := ⟨_, rfl⟩
    have HLe := Lib.hid (show (1 : Int) + (q1 : Int) = (L : Int) by omega)
    have HLw := Lib.hid (show wrap64 ((1 : Int) + (q1 : Int)) = (L : Int) by unfold wrap64; omega)
    have hL4 : L ≤ 4 := by omega
    clear hq1 hLe hq
    have HN := Lib.hid (nnew_good 2 P 128 (.slice none 0 0) (.slice none 0 0) [] [] w Fr hH (fun wx hx => ⟨rfl, none, 0, rfl, Nat.le_refl _, by simp [maxLen], fun h => absurd h (by simp)⟩)
      (fun wx hx => ⟨rfl, none, 0, rfl, Nat.le_refl _, by simp [maxLen], fun h => absurd h (by simp)⟩) (fun wx F hx => (may_none wx).mono fun e w' ⟨h1, h2⟩ => ⟨h1, h2 ▸ hx, h2 ▸ Grew.refl wx⟩) (by omega) (by omega) hP1 hP8 (by omega) (by omega) (by simp) (by simp) (by simp))
    go_wp2_with fail
    rw [HPw.out, HLw.out]
    refine HN.out.mono ?_
    rintro e w1 ⟨dv, H0, rfl, ⟨b, g, cap, mv, rfl, hc0⟩, hH1, hg1⟩
    have HC0 := Lib.hid hc0; clear hc0 HN hH HPe HPw HLe HLw
    go_wp2_with fail
    go_loopw [8, 9, 10, 11, 12, 13, 14, 15, 16, 17] (fun bv gv iv _ _ _ _ _ _ _ wr => OTo b g cap mv P L w Fr bv gv iv wr) (fun _ _ iv _ _ _ _ _ _ _ _ => L - (intOf iv).toNat)
    case atStart => exact ⟨0, _, H0, [], by omega, rfl, rfl, rfl, oinv_new P, HC0.out, hH1, hg1⟩
    case round =>
      obtain ⟨k, c0, H, F2, hk, rfl, rfl, rfl, hinv, hcc, hHr, hgr⟩ := hrel
      have HINV := Lib.hid hinv
      have HCC := Lib.hid hcc
      clear hinv hcc hH1 hg1 HC0
      by_cases hlt : k < L
      · go_wp2_with fail
        go_loopw [8, 9, 11, 12, 13, 14] (fun bv gv iv _ _ _ wr => OTry b g cap mv P k ts.length w Fr bv gv iv wr) (fun _ _ iv _ _ _ _ => ts.length - (intOf iv).toNat)
        case atStart => exact ⟨0, 0, c0, H, F2, by omega, rfl, rfl, rfl, oinv_more HINV.out (by omega), HCC.out, hHr, hgr⟩
        case round =>
          obtain ⟨i, X, c1, H1, F3, hi, rfl, rfl, rfl, hinv, hcc, hHs, hgs⟩ := hrel
          clear HINV HCC hHr hgr
          have hops : c1.ops ≤ 100 * (k : Int) + i := hinv.2.2.2.2.2.1
          have hmu := hcc.cok.2.2.2.2.2.2.2.2.2.2.1
          have hmu0 := hcc.cok.2.2.2.2.2.2.2.2.2.1
          have hpu := hcc.cok.2.2.2.2.2.2.2.2.2.2.2.2.1
          have hpu0 := hcc.cok.2.2.2.2.2.2.2.2.2.2.2.1
          have HINV := Lib.hid hinv
          have HCC := Lib.hid hcc
          clear hinv hcc
          by_cases hit : i < ts.length
          · obtain ⟨_, A9, c9, hv9, _, _, hrd9⟩ := HAC.out wr hHs.right.right
            injection hv9 with hv1 hv2 hv3
            subst hv1 hv3
            clear hv2
            obtain ⟨ba, oa, rfl, hwc⟩ := hrd9 (by omega)
            have y0 := hwc i (.int .i64 ts[i]) (by simp [hit])
            clear hwc hrd9
            generalize ts[i] = tv at *
            have hpb := low_bd tv (P : Int) (by omega) (by omega)
            go_wp2_with fail
            refine (low_any tv (P : Int) _ (by omega) (by omega)).mono ?_
            rintro e wx ⟨rfl, rfl⟩
            obtain ⟨p, hpe⟩ := Int.eq_ofNat_of_zero_le hpb.1
            rw [hpe] at hpb ⊢
            have hpP : p < P := by omega
            clear hpe hpb
            go_wp2_with fail
            refine (nnext_any 1 HCC.out hHs).mono ?_
            rintro e wx ⟨rfl, rfl⟩
            rw [(oinv_next HINV.out).1]
            go_wp2_with fail
            refine (fill_any _ 156 _ _ hHs (by omega)).mono ?_
            rintro e w3 ⟨fv, Hf, rfl, hf, hH3, hg3⟩
            obtain ⟨Af, qf, rfl⟩ := hf.val
            have hf2 := hf
            rw [pgO_len] at hf2
            have HF := Lib.hid (fun (wx : World) (F : HL) (hx : Holds wx (Hf ++ F)) => hf.at_ hx)
            obtain ⟨x, hx, hxf⟩ := oinv_blk HINV.out
            have hzc : c1.Z = 128 := HINV.out.2.1
            have hPR := nprogram_any 1 x (p : Int) (.slice Af (fillL (100 * (k : Int) + (p : Int)) 156).length qf) (fillL (100 * (k : Int) + (p : Int)) 156) HCC.out (Fr := Hf ++ (F3 ++ Fr)) (w := w3) (hH3.sub (by (repeat' (first | refine sub_append ?_ ?_ | refine sub_cons ?_ ?_ | exact sub_nil)); all_goals first | (intro p hp; simp only [List.mem_append, List.mem_cons, hp, true_or, or_true]) | simp only [List.mem_append, List.mem_cons, true_or, or_true]) (fun b => by simp only [keyc_append, keyc_cons, keyc_nil]; omega)) (by omega) hx hxf (by rw [mi_none HINV.out.2.2.2.1]; rfl) (fun wx hwx => HF.out wx _ hwx) (by rw [pgO_len, hzc])
            by_cases hpX : p = X
            · subst hpX
              obtain ⟨c2, e1, hi2, hm2, hp2⟩ := oinv_good HINV.out hx hpP
              rw [show fillL (100 * (k : Int) + (p : Int)) 156 = pgO k p from rfl] at hPR ⊢
              rw [e1] at hPR
              have HPR := Lib.hid hPR
              have HI2 := Lib.hid hi2
              have HMP := Lib.hid (And.intro hm2 hp2)
              have hpw : wrap64 (c1.programs + 1) = c1.programs + 1 := by unfold wrap64; omega
              clear hPR hi2 hm2 hp2 e1 hf hf2 hx y0
              go_wp2_with fail
              refine HPR.out.mono ?_
              rintro e w4 ⟨G4, ve4, H4, He4, rfl, he4, hc4, hH4, hg4⟩
              obtain ⟨rfl, rfl⟩ := isErr0 he4
              have HC4 := Lib.hid hc4
              have hG4 := (hgs.trans hg3).trans hg4
              clear he4 hc4 HPR hg3 hg4 hH3
              go_wp2_with fail
              refine (nmisuse_any HC4.out hH4).mono ?_
              rintro e wx ⟨rfl, rfl⟩
              rw [HMP.out.1]
              go_wp2_with fail
              refine (nprograms_any HC4.out hH4).mono ?_
              rintro e wx ⟨rfl, rfl⟩
              rw [HMP.out.2]
              have hfin : OTry b g cap mv P k ts.length w Fr (.int .i64 c1.misuse) (.int .i64 (c1.programs + 1)) (.int .i64 ((i : Int) + 1)) w4 :=
                ⟨i + 1, p + 1, c2, H4, G4 ++ (Hf ++ F3), by omega, by go_num, by rw [HMP.out.1], by rw [HMP.out.2], by rw [show 100 * (k : Int) + ((i + 1 : Nat) : Int) = 100 * (k : Int) + i + 1 by omega]; exact HI2.out, HC4.out, hH4.sub (by (repeat' (first | refine sub_append ?_ ?_ | refine sub_cons ?_ ?_ | exact sub_nil)); all_goals first | (intro p hp; simp only [List.mem_append, List.mem_cons, hp, true_or, or_true]) | simp only [List.mem_append, List.mem_cons, true_or, or_true]) (fun b => by simp only [keyc_append, keyc_cons, keyc_nil]; omega), hG4⟩
              have HFIN := Lib.hid hfin
              clear hfin hH4 hG4
              go_wp2_with fail
              exact ⟨HFIN.out, by simp [intOf]; omega⟩
            · obtain ⟨e1, hi2⟩ := oinv_bad HINV.out hx hpP hpX (fillL (100 * (k : Int) + (p : Int)) 156)
              rw [e1] at hPR
              have HPR := Lib.hid hPR
              have HI2 := Lib.hid hi2
              have hpn : ((p : Int) == (X : Int)) = false := by simp; omega
              have hmw : wrap64 (c1.misuse + 1) = c1.misuse + 1 := by unfold wrap64; omega
              clear hPR hi2 e1 hf hf2 hx y0
              go_wp2_with fail
              refine HPR.out.mono ?_
              rintro e w4 ⟨G4, ve4, H4, He4, rfl, he4, hc4, hH4, hg4⟩
              have HE4 := Lib.hid he4
              obtain ⟨b4, s4, rfl, _⟩ := isErrP8 he4 (show (6 : Int) ≠ 0 by decide)
              have HC4 := Lib.hid hc4
              have hG4 := (hgs.trans hg3).trans hg4
              clear he4 hc4 HPR hg3 hg4 hH3
              go_wp2_with fail
              refine (num_any _ 6 He4 (H4 ++ Fr) w4 HE4.out (hH4.sub (by (repeat' (first | refine sub_append ?_ ?_ | refine sub_cons ?_ ?_ | exact sub_nil)); all_goals first | (intro p hp; simp only [List.mem_append, List.mem_cons, hp, true_or, or_true]) | simp only [List.mem_append, List.mem_cons, true_or, or_true]) (fun b => by simp only [keyc_append, keyc_cons, keyc_nil]; omega)) (by omega)).mono ?_
              rintro e wx ⟨rfl, rfl⟩
              go_wp2_with fail
              refine (nmisuse_any HC4.out hH4).mono ?_
              rintro e wx ⟨rfl, rfl⟩
              go_wp2_with fail
              refine (nprograms_any HC4.out hH4).mono ?_
              rintro e wx ⟨rfl, rfl⟩
              have hfin : OTry b g cap mv P k ts.length w Fr (.int .i64 (c1.misuse + 1)) (.int .i64 c1.programs) (.int .i64 ((i : Int) + 1)) w4 :=
                ⟨i + 1, X, { c1 with ops := c1.ops + 1, misuse := c1.misuse + 1 }, H4, He4 ++ (G4 ++ (Hf ++ F3)), by omega, by go_num, rfl, rfl, by rw [show 100 * (k : Int) + ((i + 1 : Nat) : Int) = 100 * (k : Int) + i + 1 by omega]; exact HI2.out, HC4.out, hH4.sub (by (repeat' (first | refine sub_append ?_ ?_ | refine sub_cons ?_ ?_ | exact sub_nil)); all_goals first | (intro p hp; simp only [List.mem_append, List.mem_cons, hp, true_or, or_true]) | simp only [List.mem_append, List.mem_cons, true_or, or_true]) (fun b => by simp only [keyc_append, keyc_cons, keyc_nil]; omega), hG4⟩
              have HFIN := Lib.hid hfin
              clear hfin hH4 hG4
              go_wp2_with fail
              exact ⟨HFIN.out, by simp [intOf]; omega⟩
          · obtain rfl : i = ts.length := by omega
            have hXP : X ≤ P := by obtain ⟨_, _, _, _, _, _, _, x, _, _, _, _, _, h, _⟩ := HINV.out; exact h
            obtain ⟨D, hD⟩ : ∃ D : Int, c1.programs = (X : Int) + D := ⟨c1.programs - X, by omega⟩
            have hD0 : -8 ≤ D ∧ D ≤ 1000 := by omega
            have hgv : (Value.int .i64 c1.programs) = .int .i64 ((X : Int) + D) := by rw [hD]
            have HDD := Lib.hid hD
            obtain ⟨m0, hm0⟩ : ∃ m0, c1.misuse = m0 := ⟨_, rfl⟩
            rw [hgv, hm0]
            rw [hm0] at hmu hmu0
            have HM0 := Lib.hid hm0
            clear hD hgv hm0 hpu hpu0
            go_wp2_with fail
            go_loopw [9] (fun gv wr => ORest b g cap mv P k m0 D w Fr gv wr) (fun gv _ => ((P : Int) + D - intOf gv).toNat)
            case atStart => exact ⟨X, c1, H1, F3, hXP, HM0.out, rfl, HDD.out, oinv_more HINV.out (by omega), HCC.out, hHs, hgs⟩
            case round =>
              obtain ⟨X2, c2, H2, F4, hX2, hm2, rfl, hp2, hinv, hcc, hHt, hgt⟩ := hrel
              clear HINV HCC hHs hgs HM0 HDD
              have hops2 : c2.ops ≤ 100 * (k : Int) + 30 + X2 := hinv.2.2.2.2.2.1
              have HI2 := Lib.hid hinv
              have HC2 := Lib.hid hcc
              have HMP := Lib.hid (And.intro hm2 hp2)
              clear hinv hcc hm2 hp2
              by_cases hX : X2 < P
              · have hX' : (X2 : Int) < (P : Int) := by omega
                go_wp2_with fail
                refine (nnext_any 1 HC2.out hHt).mono ?_
                rintro e wx ⟨rfl, rfl⟩
                rw [(oinv_next HI2.out).1]
                go_wp2_with fail
                refine (nnext_any 1 HC2.out hHt).mono ?_
                rintro e wx ⟨rfl, rfl⟩
                rw [(oinv_next HI2.out).1]
                go_wp2_with fail
                refine (nnext_any 1 HC2.out hHt).mono ?_
                rintro e wx ⟨rfl, rfl⟩
                rw [(oinv_next HI2.out).1]
                go_wp2_with fail
                refine (fill_any _ 156 _ _ hHt (by omega)).mono ?_
                rintro e w3 ⟨fv, Hf, rfl, hf, hH3, hg3⟩
                obtain ⟨Af, qf, rfl⟩ := hf.val
                have HF := Lib.hid (fun (wx : World) (F : HL) (hx : Holds wx (Hf ++ F)) => hf.at_ hx)
                obtain ⟨x, hx, hxf⟩ := oinv_blk HI2.out
                have hzc : c2.Z = 128 := HI2.out.2.1
                have hPR := nprogram_any 1 x (X2 : Int) (.slice Af (fillL (100 * (k : Int) + (X2 : Int)) 156).length qf) (fillL (100 * (k : Int) + (X2 : Int)) 156) HC2.out (Fr := Hf ++ (F4 ++ Fr)) (w := w3) (hH3.sub (by (repeat' (first | refine sub_append ?_ ?_ | refine sub_cons ?_ ?_ | exact sub_nil)); all_goals first | (intro p hp; simp only [List.mem_append, List.mem_cons, hp, true_or, or_true]) | simp only [List.mem_append, List.mem_cons, true_or, or_true]) (fun b => by simp only [keyc_append, keyc_cons, keyc_nil]; omega)) (by omega) hx hxf (by rw [mi_none HI2.out.2.2.2.1]; rfl) (fun wx hwx => HF.out wx _ hwx) (by rw [pgO_len, hzc])
                obtain ⟨c3, e1, hi3, hm3, hp3⟩ := oinv_good HI2.out hx hX
                rw [show fillL (100 * (k : Int) + (X2 : Int)) 156 = pgO k X2 from rfl] at hPR ⊢
                rw [e1] at hPR
                have HPR := Lib.hid hPR
                have HI3 := Lib.hid hi3
                have HMP3 := Lib.hid (And.intro hm3 hp3)
                clear hPR hi3 hm3 hp3 e1 hf hx
                go_wp2_with fail
                refine HPR.out.mono ?_
                rintro e w4 ⟨G4, ve4, H4, He4, rfl, he4, hc4, hH4, hg4⟩
                obtain ⟨rfl, rfl⟩ := isErr0 he4
                have hfin : ORest b g cap mv P k m0 D w Fr (.int .i64 ((X2 : Int) + D + 1)) w4 :=
                  ⟨X2 + 1, c3, H4, G4 ++ (Hf ++ F4), by omega, by rw [HMP3.out.1]; exact HMP.out.1, by congr 1; omega, by rw [HMP3.out.2, HMP.out.2]; omega, by rw [show 100 * (k : Int) + 30 + ((X2 + 1 : Nat) : Int) = 100 * (k : Int) + 30 + X2 + 1 by omega]; exact HI3.out, hc4, hH4.sub (by (repeat' (first | refine sub_append ?_ ?_ | refine sub_cons ?_ ?_ | exact sub_nil)); all_goals first | (intro p hp; simp only [List.mem_append, List.mem_cons, hp, true_or, or_true]) | simp only [List.mem_append, List.mem_cons, true_or, or_true]) (fun b => by simp only [keyc_append, keyc_cons, keyc_nil]; omega), (hgt.trans hg3).trans hg4⟩
                have HFIN := Lib.hid hfin
                clear hfin he4 hc4 hH4 hg4 hg3 hH3 HPR
                go_wp2_with fail
                go_roundw
                case rel => exact HFIN.out
                case measure => simp [intOf]; omega
              · obtain rfl : X2 = P := by omega
                go_wp2_with fail
                refine (nnext_any 1 HC2.out hHt).mono ?_
                rintro e wx ⟨rfl, rfl⟩
                rw [(oinv_next HI2.out).1]
                go_wp2_with fail
                go_loopw [15, 16, 17] (fun iv _ _ wr => ORead b g cap mv X2 k m0 ((X2 : Int) + D) w Fr iv wr) (fun iv _ _ _ => X2 - (intOf iv).toNat)
                case atStart => exact ⟨0, c2, H2, F4, by omega, rfl, HMP.out.1, HMP.out.2, oinv_more HI2.out (by omega), HC2.out, hHt, hgt⟩
                case round =>
                  obtain ⟨p, c3, H3, F5, hpX, rfl, hm3, hp3, hinv, hcc, hHu, hgu⟩ := hrel
                  clear HI2 HC2 hHt hgt HMP
                  have hops3 : c3.ops ≤ 100 * (k : Int) + 40 + p := hinv.2.2.2.2.2.1
                  have HI3 := Lib.hid hinv
                  have HC3 := Lib.hid hcc
                  have HMP := Lib.hid (And.intro hm3 hp3)
                  clear hinv hcc hm3 hp3
                  by_cases hpl : p < X2
                  · obtain ⟨e1, hi4⟩ := oinv_read HI3.out hpl
                    have hR := nread_any ((1 : Nat) : Int) (p : Int) HC3.out hHu (by omega)
                    rw [e1] at hR
                    have HRD := Lib.hid hR
                    have HI4 := Lib.hid hi4
                    clear hR hi4 e1
                    go_wp2_with fail
                    refine HRD.out.mono ?_
                    rintro e w5 ⟨v5, ve5, H5, Hv5, He5, G5, rfl, hb5, he5, hc5, hH5, hg5⟩
                    obtain ⟨rfl, rfl⟩ := isErr0 he5
                    obtain ⟨A5, q5, rfl⟩ := hb5.val
                    have HC5 := Lib.hid hc5
                    have hG5 := hgu.trans hg5
                    have HB5 := Lib.hid hb5
                    have hpl2 : (pgO k p).length = 156 := pgO_len _
                    rw [hpl2]
                    clear hb5 he5 hc5 hg5 HRD hgu hHu
                    go_wp2_with fail
                    refine (fill_any _ 156 _ _ hH5 (by omega)).mono ?_
                    rintro e w6 ⟨fv, Hf, rfl, hf, hH6, hg6⟩
                    obtain ⟨Af, qf, rfl⟩ := hf.val
                    rw [show fillL (100 * (k : Int) + (p : Int)) 156 = pgO k p from rfl] at hf ⊢
                    have hsm := same_any (.slice A5 (pgO k p).length q5) (.slice Af (pgO k p).length qf) (pgO k p) (pgO k p) w6 (HB5.out.at_ (Fr := H5 ++ Fr) (hH6.sub (by (repeat' (first | refine sub_append ?_ ?_ | refine sub_cons ?_ ?_ | exact sub_nil)); all_goals first | (intro p hp; simp only [List.mem_append, List.mem_cons, hp, true_or, or_true]) | simp only [List.mem_append, List.mem_cons, true_or, or_true]) (fun b => by simp only [keyc_append, keyc_cons, keyc_nil]; omega))) (hf.at_ hH6)
                    rw [decide_eq_true rfl, hpl2] at hsm
                    have HSM := Lib.hid hsm
                    have hH7 : Holds w6 (H5 ++ ((Hf ++ (G5 ++ F5)) ++ Fr)) := hH6.sub (by (repeat' (first | refine sub_append ?_ ?_ | refine sub_cons ?_ ?_ | exact sub_nil)); all_goals first | (intro p hp; simp only [List.mem_append, List.mem_cons, hp, true_or, or_true]) | simp only [List.mem_append, List.mem_cons, true_or, or_true]) (fun b => by simp only [keyc_append, keyc_cons, keyc_nil]; omega)
                    have hG7 := hG5.trans hg6
                    rw [hpl2]
                    clear hsm hf hH6 hH5 hg6 hG5
                    go_wp2_with fail
                    refine HSM.out.mono ?_
                    rintro e w7 ⟨rfl, hq7⟩
                    have hfin : ORead b g cap mv X2 k m0 ((X2 : Int) + D) w Fr (.int .i64 ((p : Int) + 1)) w7 := ⟨p + 1, { c3 with ops := c3.ops + 1 }, H5, Hf ++ (G5 ++ F5), by omega, by go_num, HMP.out.1, HMP.out.2, by rw [show 100 * (k : Int) + 40 + ((p + 1 : Nat) : Int) = 100 * (k : Int) + 40 + p + 1 by omega]; exact HI4.out, HC5.out, hH7.dr hq7, hG7.trans (Grew.dr hq7)⟩
                    have HFIN := Lib.hid hfin
                    clear hfin hH7 hG7 hq7 HSM
                    go_wp2_with fail
                    go_roundw
                    case rel => exact HFIN.out
                    case measure => simp [intOf]; omega
                  · obtain rfl : p = X2 := by omega
                    obtain ⟨x, hx, hxf⟩ := oinv_blk HI3.out
                    obtain ⟨c4, e1, hi4, hm4, hp4⟩ := oinv_erase HI3.out hx
                    have hE := nerase_any 1 x HC3.out hHu (by omega) hx hxf (by rw [mi_none HI3.out.2.2.2.1]; rfl)
                    rw [e1] at hE
                    have HE := Lib.hid hE
                    have HI4 := Lib.hid hi4
                    have HMP4 := Lib.hid (And.intro hm4 hp4)
                    clear hE hi4 e1 hx hm4 hp4
                    go_wp2_with fail
                    refine HE.out.mono ?_
                    rintro e w5 ⟨G5, ve5, H5, He5, rfl, he5, hc5, hH5, hg5⟩
                    obtain ⟨rfl, rfl⟩ := isErr0 he5
                    have HC5 := Lib.hid hc5
                    have hG5 := hgu.trans hg5
                    clear he5 hc5 hg5 hgu hHu HE
                    go_wp2_with fail
                    refine (nwear_any 1 HC5.out hH5).mono ?_
                    rintro e wx ⟨rfl, rfl⟩
                    rw [(oinv_next HI4.out).2.1]
                    have hk1 : (((k + 1 : Nat) : Int)) = (k : Int) + 1 := by omega
                    rw [hk1]
                    go_wp2_with fail
                    refine (nnext_any 1 HC5.out hH5).mono ?_
                    rintro e wx ⟨rfl, rfl⟩
                    rw [(oinv_next HI4.out).1]
                    have hfin : OTo b g cap mv p L w Fr (.int .i64 m0) (.int .i64 ((p : Int) + D)) (.int .i64 ((k : Int) + 1)) w5 := ⟨k + 1, c4, H5, G5 ++ F5, by omega, by go_num, by rw [HMP4.out.1, HMP.out.1], by rw [HMP4.out.2, HMP.out.2], oinv_more HI4.out (by omega), HC5.out, hH5.sub (by (repeat' (first | refine sub_append ?_ ?_ | refine sub_cons ?_ ?_ | exact sub_nil)); all_goals first | (intro p hp; simp only [List.mem_append, List.mem_cons, hp, true_or, or_true]) | simp only [List.mem_append, List.mem_cons, true_or, or_true]) (fun b => by simp only [keyc_append, keyc_cons, keyc_nil]; omega), hG5⟩
                    have HFIN := Lib.hid hfin
                    clear hfin hH5 hG5
                    go_wp2_with fail
                    go_roundw
                    case rel => exact HFIN.out
                    case measure => simp [intOf]; omega
      · go_wp2_with fail
        refine (nwear_any 0 HCC.out hHr).mono ?_
        rintro e wx ⟨rfl, rfl⟩
        rw [(oinv_next HINV.out).2.2]
        go_wp2_with fail
        refine (non_any HCC.out hHr).mono ?_
        rintro e wx ⟨rfl, rfl⟩
        rw [HINV.out.2.2.2.2.1]
        go_wp2_with fail
        refine (awake8_any _ _ hHr).mono ?_
        rintro e wa ⟨rfl, hHa, hga⟩
        go_wp2_with fail
        go_ret
        exact ⟨rfl, hHa.right.right, hgr.trans hga⟩
end Go.Proofs.Ytndalabilfdgkaa
