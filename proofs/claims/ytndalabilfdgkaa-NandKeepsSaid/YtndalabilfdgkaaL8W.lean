/-
  NandKeeps: the walk.
-/
import Derived.Test.YtndalabilfdgkaaL8K
import Derived.Deep.CutBlock
namespace Go.Proofs.Ytndalabilfdgkaa
open Go.RowKit
set_option linter.unusedSimpArgs false
set_option linter.unusedVariables false

def KeepTo8 (b g cap : Nat) (mv : Value) (raw : List UInt8) (n : Nat) (w : World) (R : HL) (iv : Value) (wr : World) : Prop :=
  ∃ (k : Nat) (c : CM) (H F2 : HL), k ≤ n ∧ iv = .int .i64 k ∧ KInv c raw (2 * (k : Int) + 2) ∧ ChipAt b g cap mv c H ∧ Holds wr (H ++ (F2 ++ R)) ∧ Grew w wr
/-- behind what went on elsewhere -/
def KeepMid8 (b g cap : Nat) (mv : Value) (raw : List UInt8) (N : Int) (w : World) (R : HL) (wr : World) : Prop :=
  ∃ (c : CM) (H F2 : HL), KInv c raw N ∧ ChipAt b g cap mv c H ∧ Holds wr (H ++ (F2 ++ R)) ∧ Grew w wr
theorem fill156 (n : Int) : (fillL n 156).length = 156 := by simp [fillL]

set_option maxRecDepth 100000 in
set_option maxHeartbeats 4000000 in
theorem nkeeps_walk (n : Int) (v : Value) (l : List ActK) (w : World) (hv : ActsK w v l) :
    Calls Try.prog 3 #[.int .i64 n, v] w (RetFr (.bool true) w (allOf w)) := by
  have hH := holds_all w
  have HAC := Lib.hid (fun (wx : World) (h : Holds wx (allOf w)) => hv.keep (w' := wx) (fun p u hp => all_cell (H := []) (by simpa using h) hp))
  obtain ⟨_, A, c, rfl, hc1, hc2, _⟩ := hv
  generalize allOf w = Fr at *
  unfold maxLen at hc2
  have k1 := err_eq
  have k2 := nil_eq
  have k3 := err_ne
  have k4 := nil_ne
  go_enter Try.func3, Try.ntmps3
  by_cases h8 : 40 < l.length
  · have h8i : (40 : Int) < (l.length : Int) := by omega
    go_wp2_with fail
    refine (awake8_any _ _ hH).mono ?_
    rintro e wa ⟨rfl, hHa, hga⟩
    go_wp2_with fail
    go_ret
    exact ⟨rfl, hHa, hga⟩
  · have h8i : ¬ (40 : Int) < (l.length : Int) := by omega
    have HN := Lib.hid (nnew_good 4 4 128 (.slice none 0 0) (.slice none 0 0) [] [] w Fr hH (fun wx hx => ⟨rfl, none, 0, rfl, Nat.le_refl _, by simp [maxLen], fun h => absurd h (by simp)⟩)
      (fun wx hx => ⟨rfl, none, 0, rfl, Nat.le_refl _, by simp [maxLen], fun h => absurd h (by simp)⟩) (fun wx F hx => (may_none wx).mono fun e w' ⟨h1, h2⟩ => ⟨h1, h2 ▸ hx, h2 ▸ Grew.refl wx⟩) (by omega) (by omega) (by omega) (by omega) (by omega) (by omega) (by simp) (by simp) (by simp))
    go_wp2_with fail
    refine HN.out.mono ?_
    rintro e w1 ⟨dv, H0, rfl, ⟨b, g, cap, mv, rfl, hc0⟩, hH1, hg1⟩
    have HC0 := Lib.hid (show ChipAt b g cap mv kc0 H0 from hc0); clear hc0 HN hH
    go_wp2_with fail
    refine (fill_any n 156 w1 _ hH1 (by omega)).mono ?_
    rintro e w2 ⟨rv, Hr, rfl, hr, hH2, hg2⟩
    have hl := fill156 n
    obtain ⟨raw, hraw⟩ : ∃ raw, raw = fillL n 156 := ⟨_, rfl⟩
    rw [← hraw] at hr hl
    obtain ⟨Ar, qr, rfl⟩ := hr.val
    have HR := Lib.hid hr
    have HRL := Lib.hid hl
    clear hr hraw hH1
    have hG2 := hg1.trans hg2
    clear hg1 hg2
    have hP1 := nprogram_any 0 kx0 0 (.slice Ar raw.length qr) raw HC0.out (Fr := Hr ++ Fr) (w := w2) (hH2.sub (by (repeat' (first | refine sub_append ?_ ?_ | refine sub_cons ?_ ?_ | exact sub_nil)); all_goals first | (intro p hp; simp only [List.mem_append, List.mem_cons, hp, true_or, or_true]) | simp only [List.mem_append, List.mem_cons, true_or, or_true]) (fun b => by simp only [keyc_append, keyc_cons, keyc_nil]; omega)) (by show (0 : Int) < 1000000000000; omega) rfl rfl rfl (fun wx hx => HR.out.at_ hx) hl
    rw [k_e1, hl] at hP1
    have HP1 := Lib.hid hP1
    rw [hl]
    clear hP1 hl
    go_wp2_with fail
    refine HP1.out.mono ?_
    rintro e w3 ⟨G3, ve3, H3, He3, rfl, he3, hc3, hH3, hg3⟩
    obtain ⟨rfl, rfl⟩ := isErr0 he3
    have HC3 := Lib.hid (show ChipAt b g cap mv (kc1 raw) H3 from hc3)
    have hG3 := hG2.trans hg3
    have hP2 := nprogram_any 0 (kx1 raw) 0 (.slice Ar 156 qr) raw HC3.out (Fr := G3 ++ (Hr ++ Fr)) (w := w3) (hH3.sub (by (repeat' (first | refine sub_append ?_ ?_ | refine sub_cons ?_ ?_ | exact sub_nil)); all_goals first | (intro p hp; simp only [List.mem_append, List.mem_cons, hp, true_or, or_true]) | simp only [List.mem_append, List.mem_cons, true_or, or_true]) (fun b => by simp only [keyc_append, keyc_cons, keyc_nil]; omega)) (by show (1 : Int) < 1000000000000; omega) rfl rfl rfl (fun wx hx => by have := HR.out.at_ (w := wx) (Fr := Fr) (hx.right); rw [HRL.out] at this; exact this) HRL.out
    rw [k_e2] at hP2
    have HP2 := Lib.hid hP2
    clear hP2 he3 hc3 HP1 HC0 hH2 hG2 hg3
    go_wp2_with fail
    refine HP2.out.mono ?_
    rintro e w4 ⟨G4, ve4, H4, He4, rfl, he4, hc4, hH4, hg4⟩
    have HE4 := Lib.hid he4
    obtain ⟨b4, s4, rfl, _⟩ := isErrP8 he4 (show (6 : Int) ≠ 0 by decide)
    have HC4 := Lib.hid (show ChipAt b g cap mv (kc2 raw) H4 from hc4)
    have hG4 := hG3.trans hg4
    clear he4 hc4 HP2 HC3 hG3 hg4 hH3
    go_wp2_with fail
    refine (num_any _ 6 He4 (H4 ++ (G4 ++ (G3 ++ (Hr ++ Fr)))) w4 HE4.out (hH4.sub (by (repeat' (first | refine sub_append ?_ ?_ | refine sub_cons ?_ ?_ | exact sub_nil)); all_goals first | (intro p hp; simp only [List.mem_append, List.mem_cons, hp, true_or, or_true]) | simp only [List.mem_append, List.mem_cons, true_or, or_true]) (fun b => by simp only [keyc_append, keyc_cons, keyc_nil]; omega)) (by omega)).mono ?_
    rintro e wx ⟨rfl, rfl⟩
    have hH5 : Holds w4 (H4 ++ ((He4 ++ (G4 ++ G3)) ++ (Hr ++ Fr))) := hH4.sub (by (repeat' (first | refine sub_append ?_ ?_ | refine sub_cons ?_ ?_ | exact sub_nil)); all_goals first | (intro p hp; simp only [List.mem_append, List.mem_cons, hp, true_or, or_true]) | simp only [List.mem_append, List.mem_cons, true_or, or_true]) (fun b => by simp only [keyc_append, keyc_cons, keyc_nil]; omega)
    clear hH4
    go_wp2_with fail
    go_loopw [7, 8, 9, 10] (fun iv _ _ _ wr => KeepTo8 b g cap mv raw l.length w (Hr ++ Fr) iv wr) (fun iv _ _ _ _ => l.length - (intOf iv).toNat)
    case atStart => exact ⟨0, _, H4, _, by omega, rfl, k_inv raw, HC4.out, hH5, hG4⟩
    case round =>
      obtain ⟨k, cc, H, F2, hk, rfl, hinv, hcc, hHr, hgr⟩ := hrel
      have HINV := Lib.hid hinv
      have HCC := Lib.hid hcc
      clear hinv hcc hH5 hG4 HC4 HE4
      by_cases hlt : k < l.length
      · obtain ⟨_, A9, c9, hv9, _, _, hrd9⟩ := HAC.out wr hHr.right.right.right
        injection hv9 with hv1 hv2 hv3
        subst hv1 hv3
        clear hv2
        obtain ⟨ba, oa, rfl, hwc⟩ := hrd9 (by omega)
        have hsz : ∀ z ∈ l.map ActK.cells, z.length = 6 := by intro z hz; obtain ⟨a, _, rfl⟩ := List.mem_map.1 hz; rfl
        have hgi : (l.map ActK.cells)[k]? = some (l[k]).cells := by simp [hlt]
        have HY := Lib.hid (fun (wx : World) (hx : Holds wx Fr) => show wx.cell? ⟨ba, oa + k * 6, none⟩ = some (.int .i64 (l[k]).dop) ∧ wx.cell? ⟨ba, oa + k * 6 + 1, none⟩ = some (.int .i64 (l[k]).blk) ∧ wx.cell? ⟨ba, oa + k * 6 + 3, none⟩ = some (.int .i64 (l[k]).n) from by
          obtain ⟨_, A8, c8, hv8, _, _, hrd8⟩ := HAC.out wx hx
          injection hv8 with hv1 _ hv3
          subst hv1
          obtain ⟨b8, o8, hbo, hwc8⟩ := hrd8 (by omega)
          injection hbo with hbo
          injection hbo with hb8 ho8 _
          subst hb8 ho8
          have e0 := hwc8 (k * 6 + 0) (.int .i64 (l[k]).dop) (by rw [flat_get _ hsz k 0 _ hgi (by omega)]; rfl)
          have e1 := hwc8 (k * 6 + 1) (.int .i64 (l[k]).blk) (by rw [flat_get _ hsz k 1 _ hgi (by omega)]; rfl)
          have e3 := hwc8 (k * 6 + 3) (.int .i64 (l[k]).n) (by rw [flat_get _ hsz k 3 _ hgi (by omega)]; rfl)
          rw [Nat.add_zero] at e0
          rw [← Nat.add_assoc] at e1 e3
          exact ⟨e0, e1, e3⟩)
        clear hwc hrd9 hsz hgi
        generalize l[k] = x at *
        obtain ⟨xd, xb, xp, xn, xs, xt⟩ := x
        simp only at HY
        obtain ⟨y0, y1, y3⟩ := HY.out wr hHr.right.right.right
        have hb3 := low_bd xb 3 (by omega) (by omega)
        go_wp2_with fail
        refine (low_any xb 3 _ (by omega) (by omega)).mono ?_
        rintro e wx ⟨rfl, rfl⟩
        obtain ⟨j0, hj0⟩ := Int.eq_ofNat_of_zero_le hb3.1
        rw [hj0] at hb3 ⊢
        clear hj0
        obtain ⟨i, hi⟩ : ∃ i, i = j0 + 1 := ⟨_, rfl⟩
        have hie := Lib.hid (show (1 : Int) + (j0 : Int) = (i : Int) by omega)
        have hi1 : 1 ≤ i := by omega
        have hi4 : i < 4 := by omega
        have HIW := Lib.hid (show wrap64 ((1 : Int) + (j0 : Int)) = (i : Int) by rw [hie.out]; unfold wrap64; omega)
        clear hi hb3
        have hbl : cc.blocks.length = 4 := HINV.out.2.2.1
        obtain ⟨xx, hxx⟩ : ∃ xx, cc.blocks[i]? = some xx := ⟨_, List.getElem?_eq_getElem (by omega)⟩
        have hxm := HINV.out.2.2.2.2.2.2.1 xx (List.mem_of_getElem? hxx)
        have hopc : cc.ops ≤ 2 * (k : Int) + 2 := HINV.out.2.2.2.2.2.1
        have hkl : (k : Int) ≤ 40 := by omega
        have HMI := Lib.hid (show cc.mi.kind = 0 by rw [mi_none HINV.out.2.2.2.1]; rfl)
        have HNX := Lib.hid (show cc.nextOf (i : Int) = xx.next by unfold CM.nextOf; rw [CM.blk_nat hxx])
        have HXX := Lib.hid hxx
        have HXM := Lib.hid hxm
        have HZC := Lib.hid (show cc.Z = 128 from HINV.out.2.1)
        clear hxx hxm hbl
        go_upto_block 2 with fail
        first | rw [HIW.out] | rw [hie.out]
        go_cut [] (fun wx => KeepMid8 b g cap mv raw (2 * (k : Int) + 3) w (Hr ++ Fr) wx)
        case first =>
          by_cases e1 : xd = 1
          · subst e1
            go_upto_region 15 with fail
            refine Z_begin (fun wx => wx.cell? ⟨ba, oa + k * 6 + 3, none⟩ = some (.int .i64 xn) ∧ True) 11 (by kernel_rfl) (fun w1 hd => ⟨(HY.out _ (hHr.dr hd).right.right.right).2.2, trivial⟩) (fun w1 hd hs => ?_)
            have hH5 := hHr.dr hd; have hG5 := hgr.trans (Grew.dr hd); clear hd hHr hgr y0 y1 y3
            refine Z_takeD 0 (some 57) (v := ?_) rfl rfl (by kernel_rfl) (fun _ _ _ h => h) (by rfl) hs ?_ ?_
            rotate_left
            · intro wx hx; obtain ⟨x0, x1⟩ := hx; go_simp; try with_reducible rfl
            simp only [Act.put, List.setIfInBounds_toArray, List.set_cons_succ, List.set_cons_zero]
            refine Z_takeD 1 (some 58) (v := ?_) rfl rfl (by kernel_rfl) (fun _ _ _ h => h) (by rfl) hs ?_ ?_
            rotate_left
            · intro wx hx; obtain ⟨x0, x1⟩ := hx; go_simp; try with_reducible rfl
            simp only [Act.put, List.setIfInBounds_toArray, List.set_cons_succ, List.set_cons_zero]
            refine Z_takeD 2 (some 59) (v := ?_) rfl rfl (by kernel_rfl) (fun _ _ _ h => h) (by rfl) hs ?_ ?_
            rotate_left
            · intro wx hx; obtain ⟨x0, x1⟩ := hx; go_simp; try with_reducible rfl
            simp only [Act.put, List.setIfInBounds_toArray, List.set_cons_succ, List.set_cons_zero]
            refine Z_takeD 3 (some 60) (v := ?_) rfl rfl (by kernel_rfl) (fun _ _ _ h => h) (by rfl) hs ?_ ?_
            rotate_left
            · intro wx hx; obtain ⟨x0, x1⟩ := hx; go_simp; try with_reducible rfl
            simp only [Act.put, List.setIfInBounds_toArray, List.set_cons_succ, List.set_cons_zero]
            refine Z_takeD 5 (some 62) (v := ?_) rfl rfl (by kernel_rfl) (fun _ _ _ h => h) (by rfl) hs ?_ ?_
            rotate_left
            · intro wx hx; obtain ⟨x0, x1⟩ := hx; go_simp; try with_reducible rfl
            simp only [Act.put, List.setIfInBounds_toArray, List.set_cons_succ, List.set_cons_zero]
            refine Z_takeD 6 (some 63) (v := ?_) rfl rfl (by kernel_rfl) (fun _ _ _ h => h) (by rfl) hs ?_ ?_
            rotate_left
            · intro wx hx; obtain ⟨x0, x1⟩ := hx; go_simp; try with_reducible rfl
            simp only [Act.put, List.setIfInBounds_toArray, List.set_cons_succ, List.set_cons_zero]
            refine Z_takeD 7 (some 64) (v := ?_) rfl rfl (by kernel_rfl) (fun _ _ _ h => h) (by rfl) hs ?_ ?_
            rotate_left
            · intro wx hx; obtain ⟨x0, x1⟩ := hx; go_simp; try with_reducible rfl
            simp only [Act.put, List.setIfInBounds_toArray, List.set_cons_succ, List.set_cons_zero]
            refine Z_takeD 8 (some 65) (v := ?_) rfl rfl (by kernel_rfl) (fun _ _ _ h => h) (by rfl) hs ?_ ?_
            rotate_left
            · intro wx hx; obtain ⟨x0, x1⟩ := hx; go_simp; try with_reducible rfl
            simp only [Act.put, List.setIfInBounds_toArray, List.set_cons_succ, List.set_cons_zero]
            refine Z_takeD 9 (some 66) (v := ?_) rfl rfl (by kernel_rfl) (fun _ _ _ h => h) (by rfl) hs ?_ ?_
            rotate_left
            · intro wx hx; obtain ⟨x0, x1⟩ := hx; go_simp; try with_reducible rfl
            simp only [Act.put, List.setIfInBounds_toArray, List.set_cons_succ, List.set_cons_zero]
            refine Z_mid 4 rfl (by kernel_rfl) (fun K hK => ?_)
            have ⟨x0, x1⟩ := hs
            go_simp; refine (nnext_any (i : Int) HCC.out hH5).mono ?_; rintro e wx ⟨rfl, rfl⟩; rw [HNX.out]   -- call w
            clear x0 x1
            refine hK _ _ (hs) (fun hs2 => ?_); clear hK K hs; have hs := hs2; clear hs2
            refine Z_mid 10 rfl (by kernel_rfl) (fun K hK => ?_)
            have ⟨x0, x1⟩ := hs
            go_simp; refine (fill_any xn 156 _ _ hH5 (by omega)).mono ?_; rintro e w6 ⟨fv, Hf, rfl, hf, hH6, hg6⟩; obtain ⟨Af, qf, rfl⟩ := hf.val; have hf2 := hf; rw [fill156] at hf2   -- call w
            clear x0 x1
            refine hK _ _ (⟨(HY.out _ hH6.right.right.right.right).2.2, trivial⟩) (fun hs2 => ?_); clear hK K hs; have hs := hs2; clear hs2
            refine Z_last 11 rfl (by kernel_rfl) rfl (fun K hK => ?_)
            have ⟨x0, x1⟩ := hs
            go_simp; refine (nprogram_any i xx xx.next (.slice Af (fillL xn 156).length qf) (fillL xn 156) HCC.out (Fr := Hf ++ (F2 ++ (Hr ++ Fr))) (w := w6) (hH6.sub (by (repeat' (first | refine sub_append ?_ ?_ | refine sub_cons ?_ ?_ | exact sub_nil)); all_goals first | (intro p hp; simp only [List.mem_append, List.mem_cons, hp, true_or, or_true]) | simp only [List.mem_append, List.mem_cons, true_or, or_true]) (fun b => by simp only [keyc_append, keyc_cons, keyc_nil]; omega)) (by omega) HXX.out HXM.out.1 HMI.out (fun wx hx => hf.at_ hx) (by rw [fill156, HZC.out])).mono ?_; rintro e w7 ⟨G7, ve7, H7, He7, rfl, he7, hc7, hH7, hg7⟩   -- call w
            clear x0 x1
            refine hK _ _ ?_; clear hK K hs
            refine Z_done (by kernel_rfl) ?_ _
            have hfin : KeepMid8 b g cap mv raw (2 * (k : Int) + 3) w (Hr ++ Fr) w7 := ⟨_, H7, He7 ++ (G7 ++ (Hf ++ F2)), by have := kinv_prog (raw2 := fillL xn 156) HINV.out hi1 HXX.out; rw [show (2 * (k : Int) + 3) = 2 * (k : Int) + 2 + 1 by omega]; exact this, hc7, hH7.sub (by (repeat' (first | refine sub_append ?_ ?_ | refine sub_cons ?_ ?_ | exact sub_nil)); all_goals first | (intro p hp; simp only [List.mem_append, List.mem_cons, hp, true_or, or_true]) | simp only [List.mem_append, List.mem_cons, true_or, or_true]) (fun b => by simp only [keyc_append, keyc_cons, keyc_nil]; omega), (hG5.trans hg6).trans hg7⟩
            have HFIN := Lib.hid hfin
            clear hfin he7 hc7 hH7 hH6 hH5 hG5 hg6 hg7 hf hf2
            go_wp2_with fail
            go_meet
            exact HFIN.out
          · have e1' : (xd == 1) = false := by simpa using e1
            by_cases e2 : xd = 2
            · subst e2
              have HER := Lib.hid (nerase_any i xx HCC.out hHr (by omega) HXX.out HXM.out.1 HMI.out)
              go_wp2_with fail
              refine HER.out.mono ?_
              rintro e w7 ⟨G7, ve7, H7, He7, rfl, he7, hc7, hH7, hg7⟩
              have hfin : KeepMid8 b g cap mv raw (2 * (k : Int) + 3) w (Hr ++ Fr) w7 := ⟨_, H7, He7 ++ (G7 ++ F2), by have := kinv_erase HINV.out hi1 HXX.out; rw [show (2 * (k : Int) + 3) = 2 * (k : Int) + 2 + 1 by omega]; exact this, hc7, hH7.sub (by (repeat' (first | refine sub_append ?_ ?_ | refine sub_cons ?_ ?_ | exact sub_nil)); all_goals first | (intro p hp; simp only [List.mem_append, List.mem_cons, hp, true_or, or_true]) | simp only [List.mem_append, List.mem_cons, true_or, or_true]) (fun b => by simp only [keyc_append, keyc_cons, keyc_nil]; omega), hgr.trans hg7⟩
              have HFIN := Lib.hid hfin
              clear hfin he7 hc7 hH7 hg7 HER
              go_wp2_with fail
              go_meet
              exact HFIN.out
            · have e2' : (xd == 2) = false := by simpa using e2
              have hfin : KeepMid8 b g cap mv raw (2 * (k : Int) + 3) w (Hr ++ Fr) wr := ⟨cc, H, F2, by have := kinv_more HINV.out; rw [show (2 * (k : Int) + 3) = 2 * (k : Int) + 2 + 1 by omega]; exact this, HCC.out, hHr, hgr⟩
              have HFIN := Lib.hid hfin
              clear hfin e1 e2
              go_wp2_with fail
              go_meet
              exact HFIN.out
        case rest =>
          obtain ⟨c2, H2, F3, hinv2, hcc2, hHc, hgc⟩ := hcut
          clear HY HNX HXX HXM HMI HZC hHr hgr HINV HCC y0 y1 y3
          have HI2 := Lib.hid hinv2
          obtain ⟨x0, hx0, hx0r, hx0n, hx0w⟩ := hinv2.2.2.2.2.2.2.2
          have hop2 : c2.ops ≤ 2 * (k : Int) + 3 := hinv2.2.2.2.2.2.1
          have hrd := read_good (c := c2) (k := 0) (p := 0) hinv2.2.2.2.2.1 (by rw [mi_none hinv2.2.2.2.1]; rfl) hx0 (by rw [hinv2.1]; omega)
          rw [show (0 : Int).toNat = 0 from rfl, hx0r] at hrd
          have hR := nread_any ((0 : Nat) : Int) 0 hcc2 hHc (by omega)
          rw [hrd] at hR
          have HRD := Lib.hid hR
          have HX0 := Lib.hid hx0
          have HX0N := Lib.hid (And.intro hx0n hx0w)
          clear hinv2 hcc2 hrd hR hx0 hx0n hx0w hx0r hop2
          go_wp2_with fail
          refine HRD.out.mono ?_
          rintro e w5 ⟨v5, ve5, H5, Hv5, He5, G5, rfl, hb5, he5, hc5, hH5, hg5⟩
          obtain ⟨rfl, rfl⟩ := isErr0 he5
          have hG5 := hgc.trans hg5
          obtain ⟨A5, q5, rfl⟩ := hb5.val
          have HC5 := Lib.hid hc5
          have hsm := same_any (.slice A5 raw.length q5) (.slice Ar raw.length qr) raw raw w5 (hb5.at_ (Fr := H5 ++ Fr) (hH5.sub (by (repeat' (first | refine sub_append ?_ ?_ | refine sub_cons ?_ ?_ | exact sub_nil)); all_goals first | (intro p hp; simp only [List.mem_append, List.mem_cons, hp, true_or, or_true]) | simp only [List.mem_append, List.mem_cons, true_or, or_true]) (fun b => by simp only [keyc_append, keyc_cons, keyc_nil]; omega))) (HR.out.at_ (Fr := Fr) (hH5.sub (by (repeat' (first | refine sub_append ?_ ?_ | refine sub_cons ?_ ?_ | exact sub_nil)); all_goals first | (intro p hp; simp only [List.mem_append, List.mem_cons, hp, true_or, or_true]) | simp only [List.mem_append, List.mem_cons, true_or, or_true]) (fun b => by simp only [keyc_append, keyc_cons, keyc_nil]; omega)))
          rw [decide_eq_true rfl, HRL.out] at hsm
          have HSM := Lib.hid hsm
          have hH6 : Holds w5 (H5 ++ ((G5 ++ F3) ++ (Hr ++ Fr))) := hH5.sub (by (repeat' (first | refine sub_append ?_ ?_ | refine sub_cons ?_ ?_ | exact sub_nil)); all_goals first | (intro p hp; simp only [List.mem_append, List.mem_cons, hp, true_or, or_true]) | simp only [List.mem_append, List.mem_cons, true_or, or_true]) (fun b => by simp only [keyc_append, keyc_cons, keyc_nil]; omega)
          rw [HRL.out]
          clear hsm hb5 he5 hc5 hH5 hg5 HRD hgc hHc
          go_wp2_with fail
          refine HSM.out.mono ?_
          rintro e w6 ⟨rfl, hq6⟩
          have hH7 := hH6.dr hq6
          have hG7 := hG5.trans (Grew.dr hq6)
          clear hH6 hG5 hq6 HSM
          go_wp2_with fail
          refine (nnext_any 0 HC5.out hH7).mono ?_
          rintro e wx ⟨rfl, rfl⟩
          rw [show ({ c2 with ops := c2.ops + 1 } : CM).nextOf 0 = 1 by unfold CM.nextOf; rw [show (0 : Int) = ((0 : Nat) : Int) from rfl, CM.blk_nat (c := { c2 with ops := c2.ops + 1 }) (k := 0) (x := x0) HX0.out]; exact HX0N.out.1]
          go_wp2_with fail
          refine (nwear_any 0 HC5.out hH7).mono ?_
          rintro e wx ⟨rfl, rfl⟩
          rw [show ({ c2 with ops := c2.ops + 1 } : CM).wearOf 0 = 0 by unfold CM.wearOf; rw [show (0 : Int) = ((0 : Nat) : Int) from rfl, CM.blk_nat (c := { c2 with ops := c2.ops + 1 }) (k := 0) (x := x0) HX0.out]; exact HX0N.out.2]
          have hfin : KeepTo8 b g cap mv raw l.length w (Hr ++ Fr) (.int .i64 ((k : Int) + 1)) w6 := ⟨k + 1, _, H5, _, by omega, by go_num, by have := kinv_ops HI2.out; rw [show (2 * ((k + 1 : Nat) : Int) + 2) = 2 * (k : Int) + 3 + 1 by omega]; exact this, HC5.out, hH7, hG7⟩
          have HFIN := Lib.hid hfin
          clear hfin hH7 hG7
          go_wp2_with fail
          go_roundw
          case rel => first | exact HFIN.out | ((repeat apply Exists.intro); exact ⟨HFIN.out, rfl⟩)
          case measure => simp [intOf]; omega
      · obtain rfl : k = l.length := by omega
        obtain ⟨x0, hx0, hx0r, hx0n, hx0w⟩ := HINV.out.2.2.2.2.2.2.2
        have hxm := HINV.out.2.2.2.2.2.2.1 x0 (List.mem_of_getElem? hx0)
        have hopc : cc.ops ≤ 2 * (l.length : Int) + 2 := HINV.out.2.2.2.2.2.1
        have hE := nerase_any 0 x0 HCC.out hHr (by omega) hx0 hxm.1 (by rw [mi_none HINV.out.2.2.2.1]; rfl)
        rw [erase_good HINV.out.2.2.2.2.1 hxm.2, HINV.out.1, HINV.out.2.1] at hE
        have HE := Lib.hid hE
        obtain ⟨c3, hc3e⟩ : ∃ c3 : CM, c3 = { cc.setB 0 { x0 with pages := blankB 4 128, next := 0, wear := x0.wear + 1 } with ops := cc.ops + 1 } := ⟨_, rfl⟩
        have hb3 : c3.blocks[0]? = some { x0 with pages := blankB 4 128, next := 0, wear := x0.wear + 1 } := by
          have hbl := HINV.out.2.2.1
          rw [hc3e]; show (cc.blocks.set 0 _)[0]? = _
          simp [hbl]
        have hN3 : c3.nextOf 0 = 0 := by unfold CM.nextOf; rw [show (0 : Int) = ((0 : Nat) : Int) from rfl, CM.blk_nat hb3]; rfl
        have hW3 : c3.wearOf 0 = 1 := by unfold CM.wearOf; rw [show (0 : Int) = ((0 : Nat) : Int) from rfl, CM.blk_nat hb3]; show x0.wear + 1 = 1; omega
        have hrd3 : c3.read ((0 : Nat) : Int) 0 = ({ c3 with ops := c3.ops + 1 }, blankP 128, 0) := by
          have hon : c3.on = true := by rw [hc3e]; exact HINV.out.2.2.2.2.1
          have hms : c3.ms = [] := by rw [hc3e]; exact HINV.out.2.2.2.1
          have hP : c3.P = 4 := by rw [hc3e]; exact HINV.out.1
          have := read_good (c := c3) (k := 0) (p := 0) hon (by rw [mi_none hms]; rfl) hb3 (by rw [hP]; omega)
          rw [this]; rfl
        have hop3 : c3.ops ≤ 1000000000000 := by rw [hc3e]; show cc.ops + 1 ≤ _; omega
        rw [← hc3e] at HE
        have HRD3 := Lib.hid hrd3
        have HN3 := Lib.hid hN3
        have HW3 := Lib.hid hW3
        clear hE hc3e hb3 hN3 hW3 hrd3 hx0 hx0r hx0n hx0w hxm hopc HINV
        go_wp2_with fail
        refine HE.out.mono ?_
        rintro e w5 ⟨G5, ve5, H5, He5, rfl, he5, hc5, hH5, hg5⟩
        obtain ⟨rfl, rfl⟩ := isErr0 he5
        have HC5 := Lib.hid hc5
        have hG5 := hgr.trans hg5
        clear he5 hc5 hg5 hgr hHr HE HCC
        go_wp2_with fail
        refine (nwear_any 0 HC5.out hH5).mono ?_
        rintro e wx ⟨rfl, rfl⟩
        rw [HW3.out]
        go_wp2_with fail
        refine (nnext_any 0 HC5.out hH5).mono ?_
        rintro e wx ⟨rfl, rfl⟩
        rw [HN3.out]
        have hR := nread_any ((0 : Nat) : Int) 0 HC5.out hH5 hop3
        rw [HRD3.out] at hR
        have HR3 := Lib.hid hR; clear hR
        go_wp2_with fail
        refine HR3.out.mono ?_
        rintro e w6 ⟨v6, ve6, H6, Hv6, He6, G6, rfl, hb6, he6, hc6, hH6, hg6⟩
        obtain ⟨rfl, rfl⟩ := isErr0 he6
        have hG6 := hG5.trans hg6
        obtain ⟨A6, q6, rfl⟩ := hb6.val
        have hbl6 : (blankP 128).length = 156 := by simp [blankP]
        rw [hbl6]
        have HB6 := Lib.hid (fun (wx : World) (F : HL) (hx : Holds wx (Hv6 ++ F)) => hb6.at_ hx)
        have hH7 : Holds w6 (Hv6 ++ Fr) := hH6.sub (by (repeat' (first | refine sub_append ?_ ?_ | refine sub_cons ?_ ?_ | exact sub_nil)); all_goals first | (intro p hp; simp only [List.mem_append, List.mem_cons, hp, true_or, or_true]) | simp only [List.mem_append, List.mem_cons, true_or, or_true]) (fun b => by simp only [keyc_append, keyc_cons, keyc_nil]; omega)
        clear he6 hc6 hH6 hg6 hb6 hG5 HR3 hH5
        go_wp2_with fail
        refine (nread_nil 0 0 hH7).mono ?_
        rintro e w7 ⟨ve7, He7, rfl, he7, hH8, hg8⟩
        have HE7 := Lib.hid he7
        obtain ⟨b7, s7, rfl, _⟩ := isErrP8 he7 (show (1 : Int) ≠ 0 by decide)
        have hG8 := hG6.trans hg8
        obtain ⟨_, A8, q8, hv8, hq81, hq82, hrd8⟩ := HB6.out w7 (He7 ++ Fr) (hH8.sub (by (repeat' (first | refine sub_append ?_ ?_ | refine sub_cons ?_ ?_ | exact sub_nil)); all_goals first | (intro p hp; simp only [List.mem_append, List.mem_cons, hp, true_or, or_true]) | simp only [List.mem_append, List.mem_cons, true_or, or_true]) (fun b => by simp only [keyc_append, keyc_cons, keyc_nil]; omega))
        rw [hbl6] at hv8 hq81 hrd8
        injection hv8 with hv81 _ hv83
        subst hv81 hv83
        obtain ⟨b8, o8, rfl, hc8⟩ := hrd8 (by omega)
        have y0 := hc8 0 (.int .u8 255) (by rfl)
        have y155 := hc8 155 (.int .u8 255) (by rfl)
        rw [Nat.add_zero] at y0
        unfold maxLen at hq82
        clear he7 hg8 hrd8 hc8 hG6 hH7
        go_wp2_with fail
        refine (num_any _ 1 He7 (Hv6 ++ Fr) w7 HE7.out hH8 (by omega)).mono ?_
        rintro e wx ⟨rfl, rfl⟩
        go_wp2_with fail
        refine (nerase_nil 0 hH8).mono ?_
        rintro e w9 ⟨ve9, He9, rfl, he9, hH9, hg9⟩
        have HE9 := Lib.hid he9
        obtain ⟨b9, s9, rfl, _⟩ := isErrP8 he9 (show (1 : Int) ≠ 0 by decide)
        have hG9 := hG8.trans hg9
        clear he9 hg9 hG8 hH8
        go_wp2_with fail
        refine (num_any _ 1 He9 _ w9 HE9.out hH9 (by omega)).mono ?_
        rintro e wx ⟨rfl, rfl⟩
        go_wp2_with fail
        refine (non_nil w9).mono ?_
        rintro e wx ⟨rfl, rfl⟩
        go_wp2_with fail
        refine (nops_nil w9).mono ?_
        rintro e wx ⟨rfl, rfl⟩
        go_wp2_with fail
        refine (awake8_any _ _ hH9).mono ?_
        rintro e wa ⟨rfl, hHa, hga⟩
        go_wp2_with fail
        go_ret
        exact ⟨rfl, hHa.right.right.right, hG9.trans hga⟩
end Go.Proofs.Ytndalabilfdgkaa
