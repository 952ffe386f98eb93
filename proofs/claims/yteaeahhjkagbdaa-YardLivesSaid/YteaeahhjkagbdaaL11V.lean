/-
  YardLives: the walk.
-/
import Derived.Test.YteaeahhjkagbdaaL11Q
import Derived.Test.YteaeahhjkagbdaaOpen2
namespace Go.Proofs.Yteaeahhjkagbdaa
open Go.RowKit
set_option linter.unusedSimpArgs false
set_option linter.unusedVariables false

/-- a slice of bools -/
def Bools11 (w : World) (v : Value) (bs : List Bool) : Prop := ReadsAt w 1 v bs.length (bs.map Value.bool)
def fff : Nat → Bool × Bool := fun _ => (false, false)
/-- the lives -/
def LifeTo (b n k r : Nat) (w : World) (Fr : HL) (iv : Value) (wr : World) : Prop :=
  ∃ (i : Nat) (H F2 : HL), i ≤ r ∧ iv = .int .i64 i ∧ IsYard (.pointer (some ⟨b, 0, none⟩)) (yL n k (xP 1 0 fff)) H ∧ Holds wr (H ++ (F2 ++ Fr)) ∧ Grew w wr
/-- pages taken -/
def LifeN (b n k : Nat) (w : World) (F : HL) (iv : Value) (wr : World) : Prop :=
  ∃ (i : Nat) (H : HL), i ≤ 4 ∧ iv = .int .i64 i ∧ IsYard (.pointer (some ⟨b, 0, none⟩)) (yL n k (xP 2 (i : Int) fff)) H ∧ Holds wr (H ++ F) ∧ Grew w wr

/-- whether one of the first m is needed -/
def someTo (bs : List Bool) (m : Nat) : Bool := (List.range m).any fun i => bs.getD i false
theorem someTo_succ (bs : List Bool) (m : Nat) : someTo bs (m + 1) = (someTo bs m || bs.getD m false) := by
  unfold someTo; rw [List.range_succ, List.any_append]; simp
theorem someTo_no {bs : List Bool} (h : someTo bs bs.length = false) (hl : bs.length ≤ 4) : ((List.range 4).filter fun i => (pgD bs 0 i).1) = [] := by
  rw [List.filter_eq_nil_iff]
  intro i _ hi
  unfold pgD at hi
  split at hi
  · rename_i h2
    unfold someTo at h
    rw [List.any_eq_false] at h
    exact h i (List.mem_range.2 h2.2.1) h2.2.2
  · simp at hi
theorem someTo_yes {bs : List Bool} (h : someTo bs bs.length = true) (hl : bs.length ≤ 4) : ((List.range 4).filter fun i => (pgD bs 0 i).1) ≠ [] := by
  unfold someTo at h
  obtain ⟨i, hi, hb⟩ := List.any_eq_true.1 h
  have hi := List.mem_range.1 hi
  refine List.ne_nil_of_mem (a := i) (List.mem_filter.2 ⟨List.mem_range.2 (by omega), ?_⟩)
  unfold pgD
  rw [if_pos ⟨by omega, hi, hb⟩]
/-- no page needed: the block is as it was -/
theorem xP_free (bs : List Bool) (s t : Int) (h : someTo bs bs.length = false) : xP s t (pgD bs bs.length) = xP s t fff := by
  rw [pgD_end]; rfl
theorem yL_needS {n k : Nat} {bs : List Bool} {m : Nat} (hk : k < n) (hm : m < 4) (h : bs.getD m false = true) :
    Yneed (yL n k (xP 3 4 (pgS bs m))) (k : Int) (m : Int) ((m : Int) % 2 == 0) = (yL n k (xP 3 4 (pgS bs (m + 1))), 0) := by
  rw [yL_need _ hk hm (by omega) (pgS_at _ _), show (((m : Int) % 2 == 0) : Bool) = (m % 2 == 0) by rw [Bool.eq_iff_iff]; simp only [beq_iff_eq]; omega, pgS_yes h]
/-- pages needed, pages dropped -/
def LifeS (bs : List Bool) (b n k : Nat) (w : World) (F : HL) (sv iv : Value) (wr : World) : Prop :=
  ∃ (i : Nat) (H : HL), i ≤ bs.length ∧ iv = .int .i64 i ∧ sv = .bool (someTo bs i) ∧ IsYard (.pointer (some ⟨b, 0, none⟩)) (yL n k (xP 3 4 (pgS bs i))) H ∧ Holds wr (H ++ F) ∧ Grew w wr
def LifeD (bs : List Bool) (s t : Int) (b n k : Nat) (w : World) (F : HL) (iv : Value) (wr : World) : Prop :=
  ∃ (i : Nat) (H : HL), i ≤ bs.length ∧ iv = .int .i64 i ∧ IsYard (.pointer (some ⟨b, 0, none⟩)) (yL n k (xP s t (pgD bs i))) H ∧ Holds wr (H ++ F) ∧ Grew w wr

set_option maxRecDepth 100000 in
set_option maxHeartbeats 4000000 in
theorem lives_walk (nb bb rr : Int) (v : Value) (bs : List Bool) (w : World) (hv : Bools11 w v bs) :
    Calls Try.prog 12 #[.int .i64 nb, .int .i64 bb, .int .i64 rr, v] w (RetFr (.bool true) w (allOf w)) := by
  have hH := holds_all w
  have HAC := Lib.hid (fun (wx : World) (h : Holds wx (allOf w)) => hv.keep (w' := wx) (fun p u hp => all_cell (H := []) (by simpa using h) hp))
  obtain ⟨_, A, c, rfl, hc1, hc2, _⟩ := hv
  generalize allOf w = Fr at *
  have k1 := err_eq
  have k2 := nil_eq
  have k3 := err_ne
  have k4 := nil_ne
  unfold maxLen at hc2
  have hbb := low_bd nb 32 (by omega) (by omega)
  go_enter Try.func12, Try.ntmps12
  go_wp2_with fail
  refine (low_any nb 32 _ (by omega) (by omega)).mono ?_
  rintro e w1 ⟨rfl, rfl⟩
  obtain ⟨bn, hbn⟩ := Int.eq_ofNat_of_zero_le hbb.1
  rw [hbn] at hbb ⊢
  clear hbn
  obtain ⟨n, hn⟩ : ∃ n, n = bn + 1 := ⟨_, rfl⟩
  have hPe := Lib.hid (show (1 : Int) + (bn : Int) = (n : Int) by omega)
  have hn1 : 1 ≤ n := by omega
  have hn8 : n ≤ 32 := by omega
  go_wp2_with fail
  first | rw [hPe.out] | rw [show (bn : Int) + 1 = (n : Int) by omega]
  clear hPe hn hbb
  have hb2 := low_bd bb (n : Int) (by omega) (by omega)
  have hr2 := low_bd rr 8 (by omega) (by omega)
  refine (low_any bb (n : Int) _ (by omega) (by omega)).mono ?_
  rintro e w1 ⟨rfl, rfl⟩
  obtain ⟨k, hk⟩ := Int.eq_ofNat_of_zero_le hb2.1
  obtain ⟨r, hr⟩ := Int.eq_ofNat_of_zero_le hr2.1
  rw [hk] at hb2 ⊢
  rw [hr] at hr2
  have HR := Lib.hid hr
  clear hr hk
  have hkn : k < n := by omega
  have hr8 : r < 8 := by omega
  clear hb2 hr2
  go_wp2_with fail
  refine (low_any rr 8 _ (by omega) (by omega)).mono ?_
  rintro e w1 ⟨rfl, rfl⟩
  rw [HR.out]
  clear HR
  go_wp2_with fail
  refine (ynew_good n 4 Fr w hH hn1 hn8 (by omega) (by omega)).mono ?_
  rintro e w1 ⟨dv, H0, rfl, hd, hH1, hg1⟩
  obtain ⟨b, rfl⟩ := hd.ptr
  rw [yL_new hkn, ybF_xP] at hd
  have HD := Lib.hid hd; clear hd
  by_cases h4 : 4 < bs.length
  · have h4i : (4 : Int) < (bs.length : Int) := by omega
    go_wp2_with fail
    refine (awake11_any _ _ hH1.right).mono ?_
    rintro e wa ⟨rfl, hHa, hga⟩
    go_wp2_with fail
    go_ret
    exact ⟨rfl, hHa, hg1.trans hga⟩
  · have h4i : ¬ (4 : Int) < (bs.length : Int) := by omega
    go_wp2_with fail
    go_loopw [10, 11, 12, 13, 14, 15, 16, 17, 18] (fun iv _ _ _ _ _ _ _ _ wr => LifeTo b n k r w Fr iv wr) (fun iv _ _ _ _ _ _ _ _ _ => r - (intOf iv).toNat)
    case atStart => exact ⟨0, H0, [], by omega, rfl, HD.out, hH1, hg1⟩
    case round =>
      obtain ⟨i, H, F2, hi, rfl, hd, hHr, hgr⟩ := hrel
      have HD2 := Lib.hid hd; clear hd hH1 hg1 HD
      by_cases hlt : i < r
      · go_wp2_with fail
        have hop := yopen_any (k : Int) HD2.out hHr
        rw [yL_open hkn rfl] at hop
        refine hop.mono ?_
        rintro e w2 ⟨ve, H1, He, rfl, he, hd, hH2, hg2⟩
        obtain ⟨rfl, rfl⟩ := isErr0 he
        rw [List.nil_append] at hH2
        have HD3 := Lib.hid hd; clear hd he hop HD2
        have hG2 := hgr.trans hg2
        clear hgr hg2 hHr
        go_wp2_with fail
        have hop := yopen_any (k : Int) HD3.out hH2
        rw [yL_open_no hkn (by decide)] at hop
        refine hop.mono ?_
        rintro e w3 ⟨ve, H2, He, rfl, he, hd, hH3, hg3⟩
        obtain ⟨b3, s3, rfl, _⟩ := isErrP he (show (9 : Int) ≠ 0 by decide)
        have HE3 := Lib.hid he
        have HD4 := Lib.hid hd; clear hd he hop HD3
        have hG3 := hG2.trans hg3
        clear hG2 hg3 hH2
        go_wp2_with fail
        refine (num_any _ 9 He (H2 ++ (F2 ++ Fr)) w3 HE3.out (hH3.sub (by (repeat' (first | refine sub_append ?_ ?_ | refine sub_cons ?_ ?_ | exact sub_nil)); all_goals first | (intro p hp; simp only [List.mem_append, List.mem_cons, hp, true_or, or_true]) | simp only [List.mem_append, List.mem_cons, true_or, or_true]) (fun b => by simp only [keyc_append, keyc_cons, keyc_nil]; omega)) (by omega)).mono ?_
        rintro e wx ⟨rfl, rfl⟩
        go_wp2_with fail
        go_loopw [11, 12, 13] (fun iv _ _ wr => LifeN b n k w (He ++ (F2 ++ Fr)) iv wr) (fun iv _ _ _ => 4 - (intOf iv).toNat)
        case atStart => exact ⟨0, H2, by omega, rfl, HD4.out, hH3, hG3⟩
        case round =>
          obtain ⟨i2, H3, hi2, rfl, hd, hHs, hgs⟩ := hrel
          have HD5 := Lib.hid hd; clear hd hH3 hG3 HD4
          by_cases hlt2 : i2 < 4
          · go_wp2_with fail
            have hop := ynext_any (k : Int) HD5.out hHs
            rw [yL_next hkn rfl (by rw [xP_len]; show (i2 : Int) < _; omega), show (xP 2 (i2 : Int) fff).taken = (i2 : Int) from rfl] at hop
            refine hop.mono ?_
            rintro e w4 ⟨ve, H4, He4, rfl, he, hd, hH4, hg4⟩
            obtain ⟨rfl, rfl⟩ := isErr0 he
            rw [List.nil_append] at hH4
            have hfin : LifeN b n k w (He ++ (F2 ++ Fr)) (.int .i64 ((i2 : Int) + 1)) w4 := ⟨i2 + 1, H4, by omega, by go_num, hd, hH4, hgs.trans hg4⟩
            have HFIN := Lib.hid hfin
            clear hd he hop hfin hH4 hg4
            go_wp2_with fail
            exact ⟨HFIN.out, by simp [intOf]; omega⟩
          · obtain rfl : i2 = 4 := by omega
            go_wp2_with fail
            have hop := ynext_any (k : Int) HD5.out hHs
            rw [yL_next_full hkn rfl (by rw [xP_len]; exact Int.le_refl _)] at hop
            refine hop.mono ?_
            rintro e w4 ⟨ve, H4, He4, rfl, he, hd, hH4, hg4⟩
            obtain ⟨b4, s4, rfl, _⟩ := isErrP he (show (7 : Int) ≠ 0 by decide)
            have HE4 := Lib.hid he
            have HD6 := Lib.hid hd; clear hd he hop HD5
            have hG4 := hgs.trans hg4
            clear hgs hg4 hHs
            go_wp2_with fail
            refine (num_any _ 7 He4 (H4 ++ (He ++ (F2 ++ Fr))) w4 HE4.out (hH4.sub (by (repeat' (first | refine sub_append ?_ ?_ | refine sub_cons ?_ ?_ | exact sub_nil)); all_goals first | (intro p hp; simp only [List.mem_append, List.mem_cons, hp, true_or, or_true]) | simp only [List.mem_append, List.mem_cons, true_or, or_true]) (fun b => by simp only [keyc_append, keyc_cons, keyc_nil]; omega)) (by omega)).mono ?_
            rintro e wx ⟨rfl, rfl⟩
            go_wp2_with fail
            have hop := yseal_any (k : Int) HD6.out hH4
            rw [yL_seal hkn rfl] at hop
            refine hop.mono ?_
            rintro e w5 ⟨ve, H5, He5, rfl, he, hd, hH5, hg5⟩
            obtain ⟨rfl, rfl⟩ := isErr0 he
            rw [List.nil_append] at hH5
            have HD7 := Lib.hid hd; clear hd he hop HD6
            have hG5 := hG4.trans hg5
            clear hG4 hg5 hH4
            go_wp2_with fail
            have hop := ystate_any (k : Int) HD7.out hH5
            rw [yL_state _ hkn] at hop
            refine hop.mono ?_
            rintro e w6 ⟨rfl, hH6, hg6⟩
            have hG6 := hG5.trans hg6
            clear hop hG5 hg6 hH5
            go_wp2_with fail
            go_loopw [16, 17] (fun sv iv wr => LifeS bs b n k w (He4 ++ (He ++ (F2 ++ Fr))) sv iv wr) (fun _ iv _ => bs.length - (intOf iv).toNat)
            case atStart => exact ⟨0, H5, by omega, rfl, rfl, by rw [pgS_zero]; exact HD7.out, hH6, hG6⟩
            case round =>
              obtain ⟨i3, H6, hi3, rfl, rfl, hd, hHt, hgt⟩ := hrel
              have HD8 := Lib.hid hd; clear hd hH6 hG6 HD7
              obtain ⟨_, A9, c9, hv9, _, _, hrd9⟩ := HAC.out wr hHt.right.right.right.right
              injection hv9 with hv1 _ hv3
              subst hv1 hv3
              by_cases hlt3 : i3 < bs.length
              · obtain ⟨ba, oa, rfl, hwc⟩ := hrd9 (by omega)
                have y0 := hwc i3 (.bool bs[i3]) (by simp [hlt3])
                have hgd : bs.getD i3 false = bs[i3] := by simp [hlt3]
                clear hwc hrd9
                have hst := someTo_succ bs i3
                generalize bs[i3] = bv at y0 hgd
                cases bv
                · have hfin : LifeS bs b n k w (He4 ++ (He ++ (F2 ++ Fr))) (.bool (someTo bs i3)) (.int .i64 ((i3 : Int) + 1)) wr := ⟨i3 + 1, H6, by omega, by go_num, by rw [hst, hgd]; simp, by rw [← pgS_no hgd]; exact HD8.out, hHt, hgt⟩
                  have HFIN := Lib.hid hfin
                  clear hfin hgd hst hHt hgt
                  go_wp2_with fail
                  go_roundw
                  case rel => exact HFIN.out
                  case measure => simp [intOf]; omega
                · have HGD := Lib.hid hgd
                  have HST := Lib.hid hst
                  clear hgd hst
                  go_wp2_with fail
                  have hop := yneed_any (k : Int) (i3 : Int) ((i3 : Int) % 2 == 0) HD8.out hHt
                  rw [yL_needS hkn (by omega) HGD.out] at hop
                  refine hop.mono ?_
                  rintro e w7 ⟨ve, H7, He7, rfl, he, hd, hH7, hg7⟩
                  obtain ⟨rfl, rfl⟩ := isErr0 he
                  rw [List.nil_append] at hH7
                  have hfin : LifeS bs b n k w (He4 ++ (He ++ (F2 ++ Fr))) (.bool true) (.int .i64 ((i3 : Int) + 1)) w7 := ⟨i3 + 1, H7, by omega, by go_num, by rw [HST.out, HGD.out]; simp, hd, hH7, hgt.trans hg7⟩
                  have HFIN := Lib.hid hfin
                  clear hfin HGD HST hd he hop hHt hgt hH7 hg7
                  go_wp2_with fail
                  go_roundw
                  case rel => exact HFIN.out
                  case measure => simp [intOf]; omega
              · obtain rfl : i3 = bs.length := by omega
                clear hrd9
                rw [pgS_all] at HD8
                have hsn : someTo bs bs.length = false → ((List.range 4).filter fun i => (pgD bs 0 i).1) = [] := fun h => someTo_no h (by omega)
                have hsy : someTo bs bs.length = true → ((List.range 4).filter fun i => (pgD bs 0 i).1) ≠ [] := fun h => someTo_yes h (by omega)
                have HXF := Lib.hid (fun (s t : Int) => xP_free bs s t)
                generalize someTo bs bs.length = sm at *
                cases sm
                · have HSN := Lib.hid (hsn rfl)
                  clear hsn hsy
                  go_wp2_with fail
                  have hop := yfree_any (k : Int) HD8.out hHt
                  rw [yL_free hkn (.inr rfl) HSN.out] at hop
                  refine hop.mono ?_
                  rintro e w7 ⟨ve, H7, He7, rfl, he, hd, hH7, hg7⟩
                  obtain ⟨rfl, rfl⟩ := isErr0 he
                  rw [List.nil_append] at hH7
                  have HD9 := Lib.hid hd; clear hd he hop HD8
                  have hG7 := hgt.trans hg7
                  clear hgt hg7 hHt
                  go_wp2_with fail
                  go_loopw [18] (fun iv wr => LifeD bs 1 0 b n k w (He4 ++ (He ++ (F2 ++ Fr))) iv wr) (fun iv _ => bs.length - (intOf iv).toNat)
                  case atStart => exact ⟨0, H7, by omega, rfl, HD9.out, hH7, hG7⟩
                  case round =>
                    obtain ⟨i4, H8, hi4, rfl, hd, hHu, hgu⟩ := hrel
                    have HDA := Lib.hid hd; clear hd hH7 hG7 HD9
                    by_cases hlt4 : i4 < bs.length
                    · obtain ⟨_, A9, c9, hv9, _, _, hrd9⟩ := HAC.out wr (hHu.right.right.right.right)
                      injection hv9 with hv1 _ hv3
                      subst hv1 hv3
                      obtain ⟨ba, oa, rfl, hwc⟩ := hrd9 (by omega)
                      have y0 := hwc i4 (.bool bs[i4]) (by simp [hlt4])
                      have hgd : bs.getD i4 false = bs[i4] := by simp [hlt4]
                      clear hwc hrd9
                      generalize bs[i4] = bv at y0 hgd
                      cases bv
                      · have hfin : LifeD bs 1 0 b n k w (He4 ++ (He ++ (F2 ++ Fr))) (.int .i64 ((i4 : Int) + 1)) wr := ⟨i4 + 1, H8, by omega, by go_num, by rw [← pgD_no hgd]; exact HDA.out, hHu, hgu⟩
                        have HFIN := Lib.hid hfin
                        clear hfin hgd hHu hgu
                        go_wp2_with fail
                        go_roundw
                        case rel => exact HFIN.out
                        case measure => simp [intOf]; omega
                      · have HGD := Lib.hid hgd
                        clear hgd
                        go_wp2_with fail
                        have hop := ydrop_any (k : Int) (i4 : Int) HDA.out hHu
                        rw [yL_drop hkn (by omega) (pgD_at hlt4 HGD.out), pgD_yes hlt4 HGD.out] at hop
                        refine hop.mono ?_
                        rintro e w8 ⟨ve, H9, He9, rfl, he, hd, hH9, hg9⟩
                        obtain ⟨rfl, rfl⟩ := isErr0 he
                        rw [List.nil_append] at hH9
                        have hfin : LifeD bs 1 0 b n k w (He4 ++ (He ++ (F2 ++ Fr))) (.int .i64 ((i4 : Int) + 1)) w8 := ⟨i4 + 1, H9, by omega, by go_num, hd, hH9, hgu.trans hg9⟩
                        have HFIN := Lib.hid hfin
                        clear hfin HGD hd he hop hHu hgu hH9 hg9
                        go_wp2_with fail
                        go_roundw
                        case rel => exact HFIN.out
                        case measure => simp [intOf]; omega
                    · obtain rfl : i4 = bs.length := by omega
                      rw [pgD_end] at HDA
                      have HDB := Lib.hid (show IsYard (.pointer (some ⟨b, 0, none⟩)) (yL n k (xP 1 0 fff)) H8 from HDA.out)
                      clear HDA
                      go_wp2_with fail
                      have hop := ystate_any (k : Int) HDB.out hHu
                      rw [yL_state _ hkn] at hop
                      refine hop.mono ?_
                      rintro e w9 ⟨rfl, hH9, hg9⟩
                      have hG9 := hgu.trans hg9
                      clear hop
                      go_wp2_with fail
                      have hop := ydirty_any (k : Int) HDB.out hH9
                      rw [yL_dirty _ _ _ hkn, show ((List.range 4).filter fun i => (fff i).2) = [] from rfl] at hop
                      refine hop.mono ?_
                      rintro e wa ⟨rfl, hHa, hga⟩
                      have hGa := hG9.trans hga
                      clear hop
                      go_wp2_with fail
                      have hop := ylist_any 1 HDB.out hHa
                      refine hop.mono ?_
                      rintro e wb ⟨lv, Hl, rfl, hlv, hHb, hgb⟩
                      obtain ⟨Al, cl, rfl⟩ := hlv.val
                      have hll := yL_list1 (x := xP 1 0 fff) hkn rfl
                      rw [hll]
                      have hfin : LifeTo b n k r w Fr (.int .i64 ((i : Int) + 1)) wb := ⟨i + 1, H8, (He4 ++ (He ++ F2)) ++ Hl, by omega, by go_num, HDB.out, by have := hHb; exact this.sub (by (repeat' (first | refine sub_append ?_ ?_ | refine sub_cons ?_ ?_ | exact sub_nil)); all_goals first | (intro p hp; simp only [List.mem_append, List.mem_cons, hp, true_or, or_true]) | simp only [List.mem_append, List.mem_cons, true_or, or_true]) (fun b => by simp only [keyc_append, keyc_cons, keyc_nil]; omega), hGa.trans hgb⟩
                      have HFIN := Lib.hid hfin
                      clear hfin hop hHb hHa hH9 hgb hga hg9 hGa hG9 hlv hll
                      go_wp2_with fail
                      go_roundw
                      case rel => exact HFIN.out
                      case measure => simp [intOf]; omega
                · have HSY := Lib.hid (hsy rfl)
                  clear hsn hsy
                  go_wp2_with fail
                  have hop := yfree_any (k : Int) HD8.out hHt
                  rw [yL_free_no hkn (.inl HSY.out)] at hop
                  refine hop.mono ?_
                  rintro e w7 ⟨ve, H7, He7, rfl, he, hd, hH7, hg7⟩
                  obtain ⟨b7, s7, rfl, _⟩ := isErrP he (show (9 : Int) ≠ 0 by decide)
                  have HD9 := Lib.hid hd; clear hd he hop HD8
                  have hG7 := hgt.trans hg7
                  clear hgt hg7 hHt
                  go_wp2_with fail
                  go_loopw [18] (fun iv wr => LifeD bs 3 4 b n k w (He7 ++ (He4 ++ (He ++ (F2 ++ Fr)))) iv wr) (fun iv _ => bs.length - (intOf iv).toNat)
                  case atStart => exact ⟨0, H7, by omega, rfl, HD9.out, hH7, hG7⟩
                  case round =>
                    obtain ⟨i4, H8, hi4, rfl, hd, hHu, hgu⟩ := hrel
                    have HDA := Lib.hid hd; clear hd hH7 hG7 HD9
                    by_cases hlt4 : i4 < bs.length
                    · obtain ⟨_, A9, c9, hv9, _, _, hrd9⟩ := HAC.out wr (hHu.right.right.right.right.right)
                      injection hv9 with hv1 _ hv3
                      subst hv1 hv3
                      obtain ⟨ba, oa, rfl, hwc⟩ := hrd9 (by omega)
                      have y0 := hwc i4 (.bool bs[i4]) (by simp [hlt4])
                      have hgd : bs.getD i4 false = bs[i4] := by simp [hlt4]
                      clear hwc hrd9
                      generalize bs[i4] = bv at y0 hgd
                      cases bv
                      · have hfin : LifeD bs 3 4 b n k w (He7 ++ (He4 ++ (He ++ (F2 ++ Fr)))) (.int .i64 ((i4 : Int) + 1)) wr := ⟨i4 + 1, H8, by omega, by go_num, by rw [← pgD_no hgd]; exact HDA.out, hHu, hgu⟩
                        have HFIN := Lib.hid hfin
                        clear hfin hgd hHu hgu
                        go_wp2_with fail
                        go_roundw
                        case rel => exact HFIN.out
                        case measure => simp [intOf]; omega
                      · have HGD := Lib.hid hgd
                        clear hgd
                        go_wp2_with fail
                        have hop := ydrop_any (k : Int) (i4 : Int) HDA.out hHu
                        rw [yL_drop hkn (by omega) (pgD_at hlt4 HGD.out), pgD_yes hlt4 HGD.out] at hop
                        refine hop.mono ?_
                        rintro e w8 ⟨ve, H9, He9, rfl, he, hd, hH9, hg9⟩
                        obtain ⟨rfl, rfl⟩ := isErr0 he
                        rw [List.nil_append] at hH9
                        have hfin : LifeD bs 3 4 b n k w (He7 ++ (He4 ++ (He ++ (F2 ++ Fr)))) (.int .i64 ((i4 : Int) + 1)) w8 := ⟨i4 + 1, H9, by omega, by go_num, hd, hH9, hgu.trans hg9⟩
                        have HFIN := Lib.hid hfin
                        clear hfin HGD hd he hop hHu hgu hH9 hg9
                        go_wp2_with fail
                        go_roundw
                        case rel => exact HFIN.out
                        case measure => simp [intOf]; omega
                    · obtain rfl : i4 = bs.length := by omega
                      rw [pgD_end] at HDA
                      have HDB := Lib.hid (show IsYard (.pointer (some ⟨b, 0, none⟩)) (yL n k (xP 3 4 fff)) H8 from HDA.out)
                      clear HDA
                      go_wp2_with fail
                      have hop := yfree_any (k : Int) HDB.out hHu
                      rw [yL_free hkn (.inr rfl) (by rfl)] at hop
                      refine hop.mono ?_
                      rintro e w8 ⟨ve, H9, He8, rfl, he, hd, hH8, hg8⟩
                      obtain ⟨rfl, rfl⟩ := isErr0 he
                      rw [List.nil_append] at hH8
                      clear HDB
                      have HDB := Lib.hid hd; clear hd he hop
                      have hG8 := hgu.trans hg8
                      go_wp2_with fail
                      have hop := ystate_any (k : Int) HDB.out hH8
                      rw [yL_state _ hkn] at hop
                      refine hop.mono ?_
                      rintro e w9 ⟨rfl, hH9, hg9⟩
                      have hG9 := hG8.trans hg9
                      clear hop
                      go_wp2_with fail
                      have hop := ydirty_any (k : Int) HDB.out hH9
                      rw [yL_dirty _ _ _ hkn, show ((List.range 4).filter fun i => (fff i).2) = [] from rfl] at hop
                      refine hop.mono ?_
                      rintro e wa ⟨rfl, hHa, hga⟩
                      have hGa := hG9.trans hga
                      clear hop
                      go_wp2_with fail
                      have hop := ylist_any 1 HDB.out hHa
                      refine hop.mono ?_
                      rintro e wb ⟨lv, Hl, rfl, hlv, hHb, hgb⟩
                      obtain ⟨Al, cl, rfl⟩ := hlv.val
                      have hll := yL_list1 (x := xP 1 0 fff) hkn rfl
                      rw [hll]
                      have hfin : LifeTo b n k r w Fr (.int .i64 ((i : Int) + 1)) wb := ⟨i + 1, H9, (He7 ++ (He4 ++ (He ++ F2))) ++ Hl, by omega, by go_num, HDB.out, by have := hHb; exact this.sub (by (repeat' (first | refine sub_append ?_ ?_ | refine sub_cons ?_ ?_ | exact sub_nil)); all_goals first | (intro p hp; simp only [List.mem_append, List.mem_cons, hp, true_or, or_true]) | simp only [List.mem_append, List.mem_cons, true_or, or_true]) (fun b => by simp only [keyc_append, keyc_cons, keyc_nil]; omega), hGa.trans hgb⟩
                      have HFIN := Lib.hid hfin
                      clear hfin hop hHb hHa hH9 hgb hga hg9 hGa hG9 hlv hll
                      go_wp2_with fail
                      go_roundw
                      case rel => exact HFIN.out
                      case measure => simp [intOf]; omega
      · obtain rfl : i = r := by omega
        go_wp2_with fail
        have hop := yretire_any (k : Int) HD2.out hHr
        rw [yL_retire hkn (by decide)] at hop
        refine hop.mono ?_
        rintro e w2 ⟨ve, H1, He, rfl, he, hd, hH2, hg2⟩
        obtain ⟨rfl, rfl⟩ := isErr0 he
        rw [List.nil_append] at hH2
        have HD3 := Lib.hid (show IsYard (.pointer (some ⟨b, 0, none⟩)) (yL n k (xP 4 0 fff)) H1 from hd); clear hd he hop HD2
        have hG2 := hgr.trans hg2
        clear hgr hg2 hHr
        go_wp2_with fail
        have hop := yretire_any (k : Int) HD3.out hH2
        rw [yL_retire_no hkn rfl] at hop
        refine hop.mono ?_
        rintro e w3 ⟨ve, H3, He3, rfl, he, hd, hH3, hg3⟩
        obtain ⟨b3, s3, rfl, _⟩ := isErrP he (show (9 : Int) ≠ 0 by decide)
        have HE3 := Lib.hid he
        have HD4 := Lib.hid hd; clear hd he hop HD3
        have hG3 := hG2.trans hg3
        clear hG2 hg3 hH2
        go_wp2_with fail
        refine (num_any _ 9 He3 (H3 ++ (F2 ++ Fr)) w3 HE3.out (hH3.sub (by (repeat' (first | refine sub_append ?_ ?_ | refine sub_cons ?_ ?_ | exact sub_nil)); all_goals first | (intro p hp; simp only [List.mem_append, List.mem_cons, hp, true_or, or_true]) | simp only [List.mem_append, List.mem_cons, true_or, or_true]) (fun b => by simp only [keyc_append, keyc_cons, keyc_nil]; omega)) (by omega)).mono ?_
        rintro e wx ⟨rfl, rfl⟩
        go_wp2_with fail
        have hop := yopen_any (k : Int) HD4.out hH3
        rw [yL_open_no hkn (by decide)] at hop
        refine hop.mono ?_
        rintro e w4 ⟨ve, H4, He4, rfl, he, hd, hH4, hg4⟩
        obtain ⟨b4, s4, rfl, _⟩ := isErrP he (show (9 : Int) ≠ 0 by decide)
        have HE4 := Lib.hid he
        have HD5 := Lib.hid hd; clear hd he hop HD4
        have hG4 := hG3.trans hg4
        clear hG3 hg4 hH3
        go_wp2_with fail
        refine (num_any _ 9 He4 (H4 ++ (He3 ++ (F2 ++ Fr))) w4 HE4.out (hH4.sub (by (repeat' (first | refine sub_append ?_ ?_ | refine sub_cons ?_ ?_ | exact sub_nil)); all_goals first | (intro p hp; simp only [List.mem_append, List.mem_cons, hp, true_or, or_true]) | simp only [List.mem_append, List.mem_cons, true_or, or_true]) (fun b => by simp only [keyc_append, keyc_cons, keyc_nil]; omega)) (by omega)).mono ?_
        rintro e wx ⟨rfl, rfl⟩
        go_wp2_with fail
        have hop := yfree_any (k : Int) HD5.out hH4
        rw [yL_free_no hkn (.inr (by omega))] at hop
        refine hop.mono ?_
        rintro e w5 ⟨ve, H5, He5, rfl, he, hd, hH5, hg5⟩
        obtain ⟨b5, s5, rfl, _⟩ := isErrP he (show (9 : Int) ≠ 0 by decide)
        have HE5 := Lib.hid he
        have HD6 := Lib.hid hd; clear hd he hop HD5
        have hG5 := hG4.trans hg5
        clear hG4 hg5 hH4
        go_wp2_with fail
        refine (num_any _ 9 He5 (H5 ++ (He4 ++ (He3 ++ (F2 ++ Fr)))) w5 HE5.out (hH5.sub (by (repeat' (first | refine sub_append ?_ ?_ | refine sub_cons ?_ ?_ | exact sub_nil)); all_goals first | (intro p hp; simp only [List.mem_append, List.mem_cons, hp, true_or, or_true]) | simp only [List.mem_append, List.mem_cons, true_or, or_true]) (fun b => by simp only [keyc_append, keyc_cons, keyc_nil]; omega)) (by omega)).mono ?_
        rintro e wx ⟨rfl, rfl⟩
        go_wp2_with fail
        have hop := ylist_any 4 HD6.out hH5
        rw [yL_list4 hkn rfl] at hop
        refine hop.mono ?_
        rintro e w8 ⟨nv, Hn, rfl, hnv, hH8, hg8⟩
        obtain ⟨An, qn, rfl⟩ := hnv.val
        have hH9 := hH8.alloc (.cells #[.int .i64 k] 3)
        have hG9 := (hG5.trans hg8).alloc (.cells #[.int .i64 k] 3)
        have hsm := sameI_any (.slice An 1 qn) (.slice (some ⟨w8.heap.size, 0, none⟩) 1 1) [(k : Int)] [(k : Int)] (w8.alloc (.cells #[.int .i64 k] 3)) (hnv.at_ hH9.tail) ((nums1 w8.heap.size k).at_ (H := [_]) hH9)
        rw [decide_eq_true rfl] at hsm
        have HSM := Lib.hid hsm
        have hHa := hH9.tail.right
        clear hsm hH9 hH8 hg8 hH5 hG5 hnv hop
        go_wp2_with fail
        refine HSM.out.mono ?_
        rintro e w9 ⟨rfl, hq9⟩
        have hHb := hHa.dr hq9
        have hGb := hG9.trans (Grew.dr hq9)
        clear hHa hG9 hq9 HSM
        go_wp2_with fail
        have hop := ylist_any 1 HD6.out hHb
        refine hop.mono ?_
        rintro e wb ⟨lv, Hl, rfl, hlv, hHc, hgc⟩
        obtain ⟨Al, cl, rfl⟩ := hlv.val
        have hll := yL_list1r (x := xP 4 0 fff) hkn rfl
        obtain ⟨m0, hm0⟩ : ∃ m0, m0 = n - 1 := ⟨_, rfl⟩
        rw [hll, ← hm0]
        have hnn : ((m0 : Int) == (n : Int) - 1) = true := by rw [beq_iff_eq]; omega
        have hGc := hGb.trans hgc
        have hHd := hHc.right.right
        clear hop hlv hll hgc hGb hHb hHc hm0
        go_wp2_with fail
        refine (yopen_nil 0 hHd).mono ?_
        rintro e wc ⟨vc, Hc, rfl, hec, hHe, hge⟩
        have HEC := Lib.hid hec
        obtain ⟨b6, s6, rfl, _⟩ := isErrP hec (show (1 : Int) ≠ 0 by decide)
        have hGe := hGc.trans hge
        clear hec hge hGc hHd
        go_wp2_with fail
        refine (num_any _ 1 Hc _ wc HEC.out hHe (by omega)).mono ?_
        rintro e wx ⟨rfl, rfl⟩
        go_wp2_with fail
        refine (ystate_nil 0 hHe).mono ?_
        rintro e wd ⟨rfl, hHf, hgf⟩
        have hGf := hGe.trans hgf
        clear hgf hGe hHe
        go_wp2_with fail
        refine (ylist_nil 1 wd).mono ?_
        rintro e wx ⟨rfl, rfl⟩
        go_wp2_with fail
        refine (awake11_any _ _ hHf).mono ?_
        rintro e we ⟨rfl, hHg, hgg⟩
        go_wp2_with fail
        go_ret
        exact ⟨rfl, hHg.right.right.right.right.right, hGf.trans hgg⟩
end Go.Proofs.Yteaeahhjkagbdaa
