/-
  Chapter 16: StoreSealed.
-/
import Derived.Test.YtoelopghilbfeaaGreatSpN
import Derived.Test.YtoelopghilbfeaaGreatL16
import Derived.Test.YtoelopghilbfeaaGreatOpen
namespace Go.Proofs.YtoelopghilbfeaaGreat
open Go.RowKit
set_option linter.unusedSimpArgs false
set_option linter.unusedVariables false

theorem prod_glue {α β : Type} {x : α × β} {b : β} (h : x.2 = b) : x = (x.1, b) := by cases x; cases h; rfl
theorem ints_all {v : Value} {zs : List Int} {W : World} (h : IntsAt W v zs) : IsInts v zs (allOf W) := fun wx hx => h.1.keep (w' := wx) (fun p u hp => all_cell (H := []) (by simpa using hx) hp)
theorem hdK_aggF (κ : Int) (n : Nat) : (hdK κ n).agg = .agg #[.int .i64 κ, .int .u64 n, .int .i64 (1 + n), .int .i64 0] := rfl
/-- behind n puts -/
def SeTo (m sb cb g cap : Nat) (mv : Value) (W : World) (mk : Nat → Bool) (iv : Value) (wr : World) : Prop :=
  ∃ (n : Nat) (L : List (Nat × Nat)) (s : SM) (c : CM) (Hs Hc : HL), n ≤ m ∧ iv = .int .i64 n ∧ SeI mk n s c L ∧ StAt sb cb s Hs ∧ ChipAt cb g cap mv c Hc ∧ Holds wr (Hs ++ (Hc ++ allOf W)) ∧ Grew W wr
/-- sealed blocks looked at so far -/
def SlTo16 (s : SM) (c : CM) (W : World) (Hb Hs Hc : HL) (av iv : Value) (wr : World) : Prop :=
  ∃ k : Nat, k ≤ (seaL s c).length ∧ iv = .int .i64 k ∧ av = .int .i64 (allTo s ((seaL s c).take k) : Nat) ∧ Holds wr (Hb ++ (Hs ++ (Hc ++ allOf W))) ∧ Grew W wr
set_option maxRecDepth 100000 in
set_option maxHeartbeats 4000000 in
theorem sealed16_walk (kv : Value) (marks : List Int) (many drop : Int) (W : World) (hkv : IntsAt W kv marks) : Calls Tryz.prog 8 #[kv, .int .i64 many, .int .i64 drop] W (RetFr (.bool true) W (allOf W)) := by
  have hH := holds_all W
  have k1 := err_eq
  have k2 := nil_eq
  have k3 := err_ne
  have k4 := nil_ne
  have HKV := Lib.hid (ints_all hkv)
  obtain ⟨_, A, ck, rfl, _, _, _⟩ := hkv.1
  have hg0 := Grew.refl W
  clear hkv
  go_enter Tryz.func8, Tryz.ntmps8
  by_cases h3 : 3 < marks.length
  · have h3i : (3 : Int) < (marks.length : Int) := by omega
    go_wp2_with fail
    refine (awake16_any _ _ hH).mono ?_
    rintro e wa ⟨rfl, hHa, hga⟩
    go_wp2_with fail
    go_ret
    exact ⟨rfl, hHa, hga⟩
  · have h3i : ¬ (3 : Int) < (marks.length : Int) := by omega
    have HLO := Lib.hid (fun w => low_any many 49 w (by decide) (by decide))
    obtain ⟨hm1, hm2⟩ := low_bd many 49 (by decide) (by decide)
    generalize lowI many 49 = mz at *
    obtain ⟨m, rfl⟩ : ∃ m : Nat, mz = (m : Int) := ⟨mz.toNat, by omega⟩
    have HGE := Lib.hid (l16geo_any W _ hH)
    clear hH
    go_wp2_with fail
    refine HGE.out.mono ?_
    rintro e w1 ⟨rfl, hH1, hg1⟩
    have HN := Lib.hid (nnew_any 16 4 128 (.slice A marks.length ck) (.slice none 0 0) marks [] w1 _ hH1 HKV.out (ms_nil _) (fun wx F hx => (may_none wx).mono fun e w' ⟨h1, h2⟩ => ⟨h1, h2 ▸ hx, h2 ▸ Grew.refl wx⟩) (by omega) (by omega) (by omega) (by omega) (by omega) (by omega) (by simp) (by simp))
    clear HGE hH1
    go_wp2_with fail
    refine HN.out.mono ?_
    rintro e w2 (⟨hin, dv, H0, rfl, ⟨cb, g, cap, mv, rfl, hc0⟩, hH2, hg2⟩ | ⟨_, rfl, hH2, hg2⟩)
    rotate_left
    · have HAW := Lib.hid (awake16_any w2 _ hH2)
      have hG2 := hg1.trans hg2
      clear hH2 HN hg1 hg2
      go_wp2_with fail
      refine HAW.out.mono ?_
      rintro e wa ⟨rfl, hHa, hga⟩
      have hGa := hG2.trans hga
      clear HAW hga hG2
      go_wp2_with fail
      go_ret
      exact ⟨rfl, hHa, hGa⟩
    · have hG2 := hg1.trans hg2
      obtain ⟨hn1, hI0⟩ := seI_new marks
      have HNW := Lib.hid (new_any hc0 hH2 (by rw [hI0.law.has.cont.B, hI0.law.has.cont.P, hI0.law.has.cont.Z]; exact hI0.law.has.cont.pl) rfl (by show (0 : Int) ≤ 999999998000; omega))
      have hn2 : newS (CM.new 16 4 128 marks []) = ((newS (CM.new 16 4 128 marks [])).1, CM.new 16 4 128 marks [], 0) := prod_glue hn1
      have hmk3 : mkTo (fun j => marks.contains (j : Int)) 16 ≤ marks.length := mkTo_le marks 16
      generalize (newS (CM.new 16 4 128 marks [])).1 = s0 at *
      generalize CM.new 16 4 128 marks [] = c0 at *
      generalize (fun j : Nat => marks.contains (j : Int)) = mk at *
      rw [hn2] at HNW
      have HI0 := Lib.hid hI0
      clear hc0 hH2 hg2 HN hn1 hn2 hI0 hg1 hin
      go_wp2_with fail
      refine HNW.out.mono ?_
      rintro e w3 (⟨h0, sb, Hs, Hc, rfl, hs, hch, hH3, hg3⟩ | ⟨h0, _⟩)
      rotate_left
      · exact absurd rfl h0
      dsimp only at hs hch
      have hst : SeTo m sb cb g cap mv W mk (.int .i64 0) w3 := ⟨0, [], s0, c0, Hs, Hc, by omega, rfl, HI0.out, hs, hch, hH3, hG2.trans hg3⟩
      clear h0 hs hch hH3 hg3 hG2 HNW HI0
      go_wp2_with fail
      go_loopw [10] (fun iv wr => SeTo m sb cb g cap mv W mk iv wr) (fun i _ => m - (intOf i).toNat)
      case atStart => exact hst
      case round =>
        clear hst
        obtain ⟨n, L, s, c, Hs, Hc, hnm, rfl, hI, hs, hch, hH3, hG3⟩ := hrel
        by_cases hlt : n < m
        · have hnlt : (n : Int) < m := by omega
          have hw2 : IntKind.i64.wrap (1 + (n : Int)) = 1 + n := wrap_i64_id (by omega) (by omega)
          have hw4 : wrap64 (1 + (n : Int)) = 1 + n := by unfold wrap64; omega
          have hw5 : IntKind.i64.wrap ((n : Int) + 1) = n + 1 := wrap_i64_id (by omega) (by omega)
          have hw6 : IntKind.u64.wrap (n : Int) = n := by rw [IntKind.wrap_u64]; omega
          have HFL := Lib.hid (fill_any (n : Int) 128 wr _ hH3 (by decide))
          have hDl := fillL_len (n : Int)
          have hgeo := hI.law.has.geo
          have HP := Lib.hid (hI.put (by omega) (by omega))
          have HPU := Lib.hid (fun (w : World) (F : HL) (dv : Value) (h : Holds w (Hs ++ (Hc ++ F))) (hf : FrBytes (Hs ++ (Hc ++ F)) dv (fillL n 128)) => put_any (hdK 1 n) (fillL n 128) dv hs hch h hI.law.has.cont.yok (by omega) (by have := hI.law.ops; omega) hI.law.has.cont.B hI.law.has.cont.Z hf (hdK_may (Or.inl rfl) (by omega)).2)
          rw [hdK_aggF] at HPU
          generalize fillL (n : Int) 128 = D at *
          have HDL := Lib.hid hDl
          have HG3 := Lib.hid hG3
          obtain ⟨r, hr⟩ : ∃ r, r = putA s c (hdK 1 n) D := ⟨_, rfl⟩
          rw [← hr] at HP HPU
          obtain ⟨s5, c5, p5, code5⟩ := r
          dsimp only at HPU HP
          clear hr hDl hI hs hch hH3 hG3 hgeo
          go_wp2_with fail
          refine (HLO.out _).mono ?_
          rintro e wx ⟨rfl, rfl⟩
          go_wp2_with fail
          refine HFL.out.mono ?_
          rintro e w4 ⟨v4, H4, rfl, hb4, hH4, hg4⟩
          have hG4 := HG3.out.trans hg4
          have HPW := Lib.hid (HPU.out w4 (H4 ++ allOf W) v4 (hH4.sub (by (repeat' (first | refine sub_append ?_ ?_ | refine sub_cons ?_ ?_ | exact sub_nil)); all_goals first | (intro p hp; simp only [List.mem_append, List.mem_cons, hp, true_or, or_true]) | simp only [List.mem_append, List.mem_cons, true_or, or_true]) (fun b => by simp only [keyc_append, keyc_cons, keyc_nil]; omega)) (fun wx hx => hb4.at_ (Fr := Hs ++ (Hc ++ allOf W)) (hx.sub (by (repeat' (first | refine sub_append ?_ ?_ | refine sub_cons ?_ ?_ | exact sub_nil)); all_goals first | (intro p hp; simp only [List.mem_append, List.mem_cons, hp, true_or, or_true]) | simp only [List.mem_append, List.mem_cons, true_or, or_true]) (fun b => by simp only [keyc_append, keyc_cons, keyc_nil]; omega))))
          obtain ⟨A4, q4, rfl⟩ := hb4.val
          rw [HDL.out] at HPW ⊢
          clear hH4 hg4 HPU hb4 HG3 HFL
          go_wp2_with fail
          refine HPW.out.mono ?_
          rintro e w5 ⟨ve5, He5, Hs5, Hc5, rfl, he5, hs5, hch5, hH5, hg5⟩
          dsimp only at he5 hs5 hch5
          have hG5 := hG4.trans hg5
          obtain ⟨p, hp1, hp64, hpm, hp4, hd1, hd2⟩ := HP.out
          simp only [Prod.mk.injEq] at hp1
          obtain ⟨f1, f2⟩ := hp1
          subst f1 f2
          obtain ⟨rfl, rfl⟩ := isErr0 he5
          have hH6 : Holds w5 (Hs5 ++ (Hc5 ++ allOf W)) := by
            have h6 : Holds w5 (Hs5 ++ (Hc5 ++ ([] ++ (H4 ++ allOf W)))) := hH5
            exact h6.sub (by (repeat' (first | refine sub_append ?_ ?_ | refine sub_cons ?_ ?_ | exact sub_nil)); all_goals first | (intro p hp; simp only [List.mem_append, List.mem_cons, hp, true_or, or_true]) | simp only [List.mem_append, List.mem_cons, true_or, or_true]) (fun b => by simp only [keyc_append, keyc_cons, keyc_nil]; omega)
          have hq : (p : Int).tdiv 4 = ((p / 4 : Nat) : Int) := by rw [Int.tdiv_eq_ediv_of_nonneg (by omega)]; omega
          have hqw : IntKind.i64.wrap ((p / 4 : Nat) : Int) = ((p / 4 : Nat) : Int) := wrap_i64_id (by omega) (by omega)
          have hnm2 := nmarked_any ((p / 4 : Nat) : Int) hch5 hH6.swap
          rw [hp4.law.markOf (by omega), hpm] at hnm2
          have HNM := Lib.hid hnm2
          have HDR := Lib.hid (drop_any (p : Int) hs5 hH6)
          rw [hd1] at HDR
          have HD2 := Lib.hid hd2
          have HI6 := Lib.hid hp4
          have HS5 := Lib.hid hs5
          have HC5 := Lib.hid hch5
          have hpI : (p : Int) < 64 := by omega
          have hp0 : ¬ (p : Int) < 0 := by omega
          have hp63 : ¬ (63 : Int) < p := by omega
          have hn60 : (n : Int).tmod 60 = n := Int.tmod_eq_of_lt (by omega) (by omega)
          have hn63 : (n : Int) < 64 := by omega
          generalize (dropS s5 p).1 = s6 at *
          clear he5 hs5 hch5 hH5 hg5 hG4 HPW HDL HP hp4 hd1 hd2 hpm hnm2
          cases hbit : (bits BinOp.and IntKind.i64 (drop / 2 ^ n) 1 == 1)
          · clear HDR HD2
            go_wp2_with fail
            refine HNM.out.mono ?_
            rintro e wx ⟨rfl, rfl⟩
            go_wp2_with fail
            go_roundw
            case rel => exact ⟨n + 1, _, s5, c5, Hs5, Hc5, by omega, by go_num, HI6.out, HS5.out, HC5.out, hH6, hG5⟩
            case measure => simp [intOf]; omega
          · go_wp2_with fail
            refine HNM.out.mono ?_
            rintro e wx ⟨rfl, rfl⟩
            go_wp2_with fail
            refine HDR.out.mono ?_
            rintro e w9 ⟨ve9, He9, Hs9, rfl, he9, hs9, hH9, hg9⟩
            obtain ⟨rfl, rfl⟩ := isErr0 he9
            have hH10 : Holds w9 (Hs9 ++ (Hc5 ++ allOf W)) := hH9
            have hG10 := hG5.trans hg9
            clear HDR hg9 hG5 he9 hH9
            go_wp2_with fail
            go_roundw
            case rel => exact ⟨n + 1, _, s6, c5, Hs9, Hc5, by omega, by go_num, HD2.out, hs9, HC5.out, hH10, hG10⟩
            case measure => simp [intOf]; omega
        · obtain rfl : n = m := by omega
          have hnl : ¬ (n : Int) < n := by omega
          have HSE := Lib.hid (sealed_any hs hch hH3)
          have hB16 := hI.law.has.geo.1
          have HB16 := Lib.hid hB16
          have HP4 := Lib.hid hI.law.has.geo.2.1
          have HYK := Lib.hid hI.law.has.cont.yok
          have HPL8 := Lib.hid (fun j : Nat => show (pagesOf s (j : Int)).length ≤ 8 by have := pagesOf_len (s := s) HYK.out (j : Int); have := HP4.out; omega)
          have HSA := Lib.hid (fun t (ht : t < (seaL s c).length) => seaL_at hI.law.has.cont hB16 ht)
          have HLEFT := Lib.hid hI.left
          have HNDL := Lib.hid hI.law.neededLen
          have HBAD := Lib.hid (badS_eq (s := s) (c := c) (mk := mk) fun j hj => hI.law.markOf (by omega))
          have HN2 := Lib.hid (fun (w : World) (F : HL) (h : Holds w (Hs ++ F)) => needed_any hs h hI.law.has.cont.yok)
          have HS := Lib.hid hs
          have HC := Lib.hid hch
          have hsl : (seaL s c).length ≤ 16 := by
            unfold seaL
            have := List.length_filter_le (sealB s c) (List.range s.B)
            rw [List.length_range] at this
            omega
          rw [sealed_eq] at HSE
          clear hI hs hch hnm hlt hB16 hm1
          go_wp2_with fail
          refine (HLO.out _).mono ?_
          rintro e wx ⟨rfl, rfl⟩
          go_wp2_with fail
          refine HSE.out.mono ?_
          rintro e w4 ⟨v4, Hb, rfl, hv4, hH4, hg4⟩
          have HROW := Lib.hid (show IsRow 3 1 _ ((seaL s c).map fun i : Nat => (i : Int)).length (((seaL s c).map fun i : Nat => (i : Int)).map (Value.int .i64)) Hb from hv4)
          obtain ⟨A8, c8, rfl⟩ := hv4.val
          rw [List.length_map] at HROW ⊢
          have hst2 : SlTo16 s c W Hb Hs Hc (.int .i64 0) (.int .i64 0) w4 := ⟨0, by omega, rfl, rfl, hH4, hG3.trans hg4⟩
          clear hv4 hH4 hg4 hG3 hH3 HSE hnl
          go_wp2_with fail
          go_loopw [14, 15] (fun av iv wr => SlTo16 s c W Hb Hs Hc av iv wr) (fun _ i _ => (seaL s c).length - (intOf i).toNat)
          case atStart => exact hst2
          case round =>
            clear hst2
            obtain ⟨kk, hkk, rfl, rfl, hHA, hGA⟩ := hrel
            by_cases hkl : kk < (seaL s c).length
            · have hkkl : (kk : Int) < (seaL s c).length := by omega
              have hkw : IntKind.i64.wrap ((kk : Int) + 1) = kk + 1 := wrap_i64_id (by omega) (by omega)
              obtain ⟨hj16, hjm, hjp⟩ := HSA.out kk hkl
              have HAT := Lib.hid (allTo_take (s := s) hkl)
              have hrdn := IsRow.reads HROW.out (Fr := Hs ++ (Hc ++ allOf W)) hHA
              obtain ⟨h1x, A3, c8', hv3, h2x, hc33, hrd4⟩ := hrdn
              injection hv3 with hv31 hv32 hv33
              subst hv31; subst hv33
              clear hv32 h1x h2x hc33
              obtain ⟨b8, o8, rfl, hcl⟩ := hrd4 (by omega)
              have HRD : Hid (∀ (t : Nat) (ht : t < (seaL s c).length) (wx : World) (F : HL), Holds wx (Hb ++ F) → wx.cell? ⟨b8, o8 + t, none⟩ = some (.int .i64 ((seaL s c)[t] : Nat))) := Lib.hid (fun t ht wx F hx => by
                obtain ⟨_, A9, c9, hv9, _, _, hrd9⟩ := IsRow.reads HROW.out (Fr := F) hx
                injection hv9 with hv91 hv92 hv93
                subst hv91; subst hv93
                obtain ⟨b9, o9, he9, hcl9⟩ := hrd9 (by omega)
                injection he9 with he9
                injection he9 with he91 he92
                subst he91 he92
                exact hcl9 t _ (by simp [List.getElem?_eq_getElem ht]))
              have HSW := Lib.hid (fun (wx : World) (F : HL) (h : Holds wx (Hb ++ F)) => HRD.out kk hkl wx F h)
              have HPV : Hid (0 < kk → ∃ jp : Nat, jp < (seaL s c)[kk] ∧ ∀ (wx : World) (F : HL), Holds wx (Hb ++ F) → wx.cell? ⟨b8, o8 + (kk - 1), none⟩ = some (.int .i64 (jp : Nat))) := Lib.hid (fun h0 => ⟨(seaL s c)[kk - 1]'(by omega), seaL_lt hkl (by omega), fun wx F h => HRD.out (kk - 1) (by omega) wx F h⟩)
              generalize (seaL s c)[kk] = j at *
              have haT : allTo s ((seaL s c).take kk) ≤ 128 := by
                have := allTo_le HPL8.out ((seaL s c).take kk)
                rw [List.length_take] at this
                omega
              obtain ⟨az, haz⟩ : ∃ az : Int, az = ((allTo s ((seaL s c).take kk) : Nat) : Int) := ⟨_, rfl⟩
              rw [← haz]
              have haz1 : 0 ≤ az := by omega
              have haz2 : az ≤ 128 := by omega
              have HAZ := Lib.hid haz
              clear haz haT
              have HJM := Lib.hid hjm
              have hj0 : ¬ (j : Int) < 0 := by omega
              have hj15 : ¬ (15 : Int) < j := by omega
              obtain ⟨ln, hln⟩ : ∃ ln, ln = (pagesOf s (j : Int)).length := ⟨_, rfl⟩
              have HLN := Lib.hid hln
              have hcnt : ln ≤ 8 := by rw [hln]; exact HPL8.out j
              have hjp0 : (ln : Int) ≠ 0 := by omega
              have hjp1 : ((ln : Int) == 0) = false := beq_eq_false_iff_ne.2 hjp0
              have hja : IntKind.i64.wrap (az + ln) = az + ln := wrap_i64_id (by omega) (by omega)
              have hja2 : wrap64 (az + ln) = az + ln := by unfold wrap64; omega
              have hkl2 : kk + 1 ≤ (seaL s c).length := hkl
              clear hjp hln
              clear hcl hrd4 hjm
              go_upto_region 20 with fail
              rcases Nat.eq_zero_or_pos kk with hk0 | hk0
              · have hkd1 : decide ((0 : Int) < (kk : Int)) = false := decide_eq_false (by omega)
                have hkd2 : decide (0 < kk) = false := decide_eq_false (by omega)
                clear hk0
                refine Z_begin (fun wx => wx.cell? ⟨b8, o8 + kk, none⟩ = some (.int .i64 (j : Nat)) ∧ True) 46 (by kernel_rfl) (fun w1 hd => ⟨HSW.out _ _ (hHA.dr hd), trivial⟩) (fun w1 hd hs => ?_)
                have hHb := hHA.dr hd; have hGb := hGA.trans (Grew.dr hd); clear hd hHA hGA
                refine Z_takeD 0 (some 94) (v := ?_) rfl rfl (by kernel_rfl) (fun _ _ _ h => h) (by rfl) hs ?_ ?_
                rotate_left
                · intro wx hx; obtain ⟨s1, s2⟩ := hx; go_simp; try with_reducible rfl
                simp only [Act.put, List.setIfInBounds_toArray, List.set_cons_succ, List.set_cons_zero]
                refine Z_takeD 1 (some 95) (v := ?_) rfl rfl (by kernel_rfl) (fun _ _ _ h => h) (by rfl) hs ?_ ?_
                rotate_left
                · intro wx hx; obtain ⟨s1, s2⟩ := hx; go_simp; try with_reducible rfl
                simp only [Act.put, List.setIfInBounds_toArray, List.set_cons_succ, List.set_cons_zero]
                refine Z_takeD 2 (some 96) (v := ?_) rfl rfl (by kernel_rfl) (fun _ _ _ h => h) (by rfl) hs ?_ ?_
                rotate_left
                · intro wx hx; obtain ⟨s1, s2⟩ := hx; go_simp; try with_reducible rfl
                simp only [Act.put, List.setIfInBounds_toArray, List.set_cons_succ, List.set_cons_zero]
                refine Z_takeD 3 (some 97) (v := ?_) rfl rfl (by kernel_rfl) (fun _ _ _ h => h) (by rfl) hs ?_ ?_
                rotate_left
                · intro wx hx; obtain ⟨s1, s2⟩ := hx; go_simp; try with_reducible rfl
                simp only [Act.put, List.setIfInBounds_toArray, List.set_cons_succ, List.set_cons_zero]
                refine Z_takeD 4 (some 98) (v := ?_) rfl rfl (by kernel_rfl) (fun _ _ _ h => h) (by rfl) hs ?_ ?_
                rotate_left
                · intro wx hx; obtain ⟨s1, s2⟩ := hx; go_simp; try with_reducible rfl
                simp only [Act.put, List.setIfInBounds_toArray, List.set_cons_succ, List.set_cons_zero]
                refine Z_takeD 5 (some 99) (v := ?_) rfl rfl (by kernel_rfl) (fun _ _ _ h => h) (by rfl) hs ?_ ?_
                rotate_left
                · intro wx hx; obtain ⟨s1, s2⟩ := hx; go_simp; try with_reducible rfl
                simp only [Act.put, List.setIfInBounds_toArray, List.set_cons_succ, List.set_cons_zero]
                refine Z_takeD 6 (some 100) (v := ?_) rfl rfl (by kernel_rfl) (fun _ _ _ h => h) (by rfl) hs ?_ ?_
                rotate_left
                · intro wx hx; obtain ⟨s1, s2⟩ := hx; go_simp; try with_reducible rfl
                simp only [Act.put, List.setIfInBounds_toArray, List.set_cons_succ, List.set_cons_zero]
                refine Z_takeD 7 (some 101) (v := ?_) rfl rfl (by kernel_rfl) (fun _ _ _ h => h) (by rfl) hs ?_ ?_
                rotate_left
                · intro wx hx; obtain ⟨s1, s2⟩ := hx; go_simp; try with_reducible rfl
                simp only [Act.put, List.setIfInBounds_toArray, List.set_cons_succ, List.set_cons_zero]
                refine Z_takeD 8 (some 102) (v := ?_) rfl rfl (by kernel_rfl) (fun _ _ _ h => h) (by rfl) hs ?_ ?_
                rotate_left
                · intro wx hx; obtain ⟨s1, s2⟩ := hx; go_simp; try with_reducible rfl
                simp only [Act.put, List.setIfInBounds_toArray, List.set_cons_succ, List.set_cons_zero]
                refine Z_takeD 9 (some 103) (v := ?_) rfl rfl (by kernel_rfl) (fun _ _ _ h => h) (by rfl) hs ?_ ?_
                rotate_left
                · intro wx hx; obtain ⟨s1, s2⟩ := hx; go_simp; try with_reducible rfl
                simp only [Act.put, List.setIfInBounds_toArray, List.set_cons_succ, List.set_cons_zero]
                refine Z_takeD 10 (some 104) (v := ?_) rfl rfl (by kernel_rfl) (fun _ _ _ h => h) (by rfl) hs ?_ ?_
                rotate_left
                · intro wx hx; obtain ⟨s1, s2⟩ := hx; go_simp; try with_reducible rfl
                simp only [Act.put, List.setIfInBounds_toArray, List.set_cons_succ, List.set_cons_zero]
                refine Z_takeD 11 (some 105) (v := ?_) rfl rfl (by kernel_rfl) (fun _ _ _ h => h) (by rfl) hs ?_ ?_
                rotate_left
                · intro wx hx; obtain ⟨s1, s2⟩ := hx; go_simp; try with_reducible rfl
                simp only [Act.put, List.setIfInBounds_toArray, List.set_cons_succ, List.set_cons_zero]
                refine Z_takeD 12 (some 106) (v := ?_) rfl rfl (by kernel_rfl) (fun _ _ _ h => h) (by rfl) hs ?_ ?_
                rotate_left
                · intro wx hx; obtain ⟨s1, s2⟩ := hx; go_simp; try with_reducible rfl
                simp only [Act.put, List.setIfInBounds_toArray, List.set_cons_succ, List.set_cons_zero]
                refine Z_takeD 13 (some 107) (v := ?_) rfl rfl (by kernel_rfl) (fun _ _ _ h => h) (by rfl) hs ?_ ?_
                rotate_left
                · intro wx hx; obtain ⟨s1, s2⟩ := hx; go_simp; try with_reducible rfl
                simp only [Act.put, List.setIfInBounds_toArray, List.set_cons_succ, List.set_cons_zero]
                refine Z_takeD 14 (some 108) (v := ?_) rfl rfl (by kernel_rfl) (fun _ _ _ h => h) (by rfl) hs ?_ ?_
                rotate_left
                · intro wx hx; obtain ⟨s1, s2⟩ := hx; go_simp; try with_reducible rfl
                simp only [Act.put, List.setIfInBounds_toArray, List.set_cons_succ, List.set_cons_zero]
                refine Z_takeD 15 (some 109) (v := ?_) rfl rfl (by kernel_rfl) (fun _ _ _ h => h) (by rfl) hs ?_ ?_
                rotate_left
                · intro wx hx; obtain ⟨s1, s2⟩ := hx; go_simp; try with_reducible rfl
                simp only [Act.put, List.setIfInBounds_toArray, List.set_cons_succ, List.set_cons_zero]
                refine Z_takeD 16 (some 110) (v := ?_) rfl rfl (by kernel_rfl) (fun _ _ _ h => h) (by rfl) hs ?_ ?_
                rotate_left
                · intro wx hx; obtain ⟨s1, s2⟩ := hx; go_simp; try with_reducible rfl
                simp only [Act.put, List.setIfInBounds_toArray, List.set_cons_succ, List.set_cons_zero]
                refine Z_takeD 17 (some 111) (v := ?_) rfl rfl (by kernel_rfl) (fun _ _ _ h => h) (by rfl) hs ?_ ?_
                rotate_left
                · intro wx hx; obtain ⟨s1, s2⟩ := hx; go_simp; try with_reducible rfl
                simp only [Act.put, List.setIfInBounds_toArray, List.set_cons_succ, List.set_cons_zero]
                refine Z_mid 18 rfl (by kernel_rfl) (fun K hK => ?_)
                have ⟨s1, s2⟩ := hs
                go_simp; have hnm := nmarked_any (j : Int) HC.out (hHb.sub (by (repeat' (first | refine sub_append ?_ ?_ | refine sub_cons ?_ ?_ | exact sub_nil)); all_goals first | (intro p hp; simp only [List.mem_append, List.mem_cons, hp, true_or, or_true]) | simp only [List.mem_append, List.mem_cons, true_or, or_true]) (fun b => by simp only [keyc_append, keyc_cons, keyc_nil]; omega) : Holds w1 (Hc ++ (Hb ++ (Hs ++ allOf W)))); rw [HJM.out] at hnm; refine hnm.mono ?_; rintro e wB ⟨rfl, rfl⟩; clear hnm   -- call w
                clear s1 s2
                refine hK _ _ (⟨HSW.out _ _ (hHb), trivial⟩) (fun hs2 => ?_); clear hK K hs; have hs := hs2; clear hs2
                refine Z_takeD 19 (some 113) (v := ?_) rfl rfl (by kernel_rfl) (fun _ _ _ h => h) (by rfl) hs ?_ ?_
                rotate_left
                · intro wx hx; obtain ⟨s1, s2⟩ := hx; go_simp; try with_reducible rfl
                simp only [Act.put, List.setIfInBounds_toArray, List.set_cons_succ, List.set_cons_zero]
                refine Z_takeD 20 (some 114) (v := ?_) rfl rfl (by kernel_rfl) (fun _ _ _ h => h) (by rfl) hs ?_ ?_
                rotate_left
                · intro wx hx; obtain ⟨s1, s2⟩ := hx; go_simp; try with_reducible rfl
                simp only [Act.put, List.setIfInBounds_toArray, List.set_cons_succ, List.set_cons_zero]
                refine Z_takeD 21 (some 115) (v := ?_) rfl rfl (by kernel_rfl) (fun _ _ _ h => h) (by rfl) hs ?_ ?_
                rotate_left
                · intro wx hx; obtain ⟨s1, s2⟩ := hx; go_simp; try with_reducible rfl
                simp only [Act.put, List.setIfInBounds_toArray, List.set_cons_succ, List.set_cons_zero]
                refine Z_takeD 22 (some 116) (v := ?_) rfl rfl (by kernel_rfl) (fun _ _ _ h => h) (by rfl) hs ?_ ?_
                rotate_left
                · intro wx hx; obtain ⟨s1, s2⟩ := hx; go_simp; try with_reducible rfl
                simp only [Act.put, List.setIfInBounds_toArray, List.set_cons_succ, List.set_cons_zero]
                refine Z_takeD 23 (some 117) (v := ?_) rfl rfl (by kernel_rfl) (fun _ _ _ h => h) (by rfl) hs ?_ ?_
                rotate_left
                · intro wx hx; obtain ⟨s1, s2⟩ := hx; go_simp; try with_reducible rfl
                simp only [Act.put, List.setIfInBounds_toArray, List.set_cons_succ, List.set_cons_zero]
                refine Z_takeD 24 (some 118) (v := ?_) rfl rfl (by kernel_rfl) (fun _ _ _ h => h) (by rfl) hs ?_ ?_
                rotate_left
                · intro wx hx; obtain ⟨s1, s2⟩ := hx; go_simp; try with_reducible rfl
                simp only [Act.put, List.setIfInBounds_toArray, List.set_cons_succ, List.set_cons_zero]
                refine Z_takeD 25 (some 119) (v := ?_) rfl rfl (by kernel_rfl) (fun _ _ _ h => h) (by rfl) hs ?_ ?_
                rotate_left
                · intro wx hx; obtain ⟨s1, s2⟩ := hx; go_simp; try with_reducible rfl
                simp only [Act.put, List.setIfInBounds_toArray, List.set_cons_succ, List.set_cons_zero]
                refine Z_mid 26 rfl (by kernel_rfl) (fun K hK => ?_)
                have ⟨s1, s2⟩ := hs
                go_simp; refine (block_any (j : Int) HS.out (hHb.sub (by (repeat' (first | refine sub_append ?_ ?_ | refine sub_cons ?_ ?_ | exact sub_nil)); all_goals first | (intro p hp; simp only [List.mem_append, List.mem_cons, hp, true_or, or_true]) | simp only [List.mem_append, List.mem_cons, true_or, or_true]) (fun b => by simp only [keyc_append, keyc_cons, keyc_nil]; omega) : Holds _ (Hs ++ (Hb ++ (Hc ++ allOf W)))) HYK.out (by omega) (by have := HB16.out; omega)).mono ?_; rintro e wC ⟨vC, HX, rfl, hvC, hHx, hgx⟩; obtain ⟨AX, cX, rfl⟩ := hvC.val; rw [← HLN.out]; have hHc : Holds wC (Hb ++ (Hs ++ (Hc ++ allOf W))) := by { have h : Holds wC (HX ++ (Hs ++ (Hb ++ (Hc ++ allOf W)))) := hHx; exact h.sub (by (repeat' (first | refine sub_append ?_ ?_ | refine sub_cons ?_ ?_ | exact sub_nil)); all_goals first | (intro p hp; simp only [List.mem_append, List.mem_cons, hp, true_or, or_true]) | simp only [List.mem_append, List.mem_cons, true_or, or_true]) (fun b => by simp only [keyc_append, keyc_cons, keyc_nil]; omega) }; have hGc := hGb.trans hgx; clear hvC hHx hgx hHb hGb   -- call w
                clear s1 s2
                refine hK _ _ (⟨HSW.out _ _ (hHc), trivial⟩) (fun hs2 => ?_); clear hK K hs; have hs := hs2; clear hs2
                refine Z_takeD 27 (some 121) (v := ?_) rfl rfl (by kernel_rfl) (fun _ _ _ h => h) (by rfl) hs ?_ ?_
                rotate_left
                · intro wx hx; obtain ⟨s1, s2⟩ := hx; go_simp; try with_reducible rfl
                simp only [Act.put, List.setIfInBounds_toArray, List.set_cons_succ, List.set_cons_zero]
                refine Z_takeD 28 (some 122) (v := ?_) rfl rfl (by kernel_rfl) (fun _ _ _ h => h) (by rfl) hs ?_ ?_
                rotate_left
                · intro wx hx; obtain ⟨s1, s2⟩ := hx; go_simp; try with_reducible rfl
                simp only [Act.put, List.setIfInBounds_toArray, List.set_cons_succ, List.set_cons_zero]
                refine Z_takeD 29 (some 123) (v := ?_) rfl rfl (by kernel_rfl) (fun _ _ _ h => h) (by rfl) hs ?_ ?_
                rotate_left
                · intro wx hx; obtain ⟨s1, s2⟩ := hx; go_simp; try with_reducible rfl
                simp only [Act.put, List.setIfInBounds_toArray, List.set_cons_succ, List.set_cons_zero]
                refine Z_takeD 30 (some 124) (v := ?_) rfl rfl (by kernel_rfl) (fun _ _ _ h => h) (by rfl) hs ?_ ?_
                rotate_left
                · intro wx hx; obtain ⟨s1, s2⟩ := hx; go_simp; try with_reducible rfl
                simp only [Act.put, List.setIfInBounds_toArray, List.set_cons_succ, List.set_cons_zero]
                refine Z_takeD 31 (some 125) (v := ?_) rfl rfl (by kernel_rfl) (fun _ _ _ h => h) (by rfl) hs ?_ ?_
                rotate_left
                · intro wx hx; obtain ⟨s1, s2⟩ := hx; go_simp; try with_reducible rfl
                simp only [Act.put, List.setIfInBounds_toArray, List.set_cons_succ, List.set_cons_zero]
                refine Z_takeD 32 (some 126) (v := ?_) rfl rfl (by kernel_rfl) (fun _ _ _ h => h) (by rfl) hs ?_ ?_
                rotate_left
                · intro wx hx; obtain ⟨s1, s2⟩ := hx; go_simp; try with_reducible rfl
                simp only [Act.put, List.setIfInBounds_toArray, List.set_cons_succ, List.set_cons_zero]
                refine Z_takeD 33 (some 127) (v := ?_) rfl rfl (by kernel_rfl) (fun _ _ _ h => h) (by rfl) hs ?_ ?_
                rotate_left
                · intro wx hx; obtain ⟨s1, s2⟩ := hx; go_simp; try with_reducible rfl
                simp only [Act.put, List.setIfInBounds_toArray, List.set_cons_succ, List.set_cons_zero]
                refine Z_skipD 34 (some 128) rfl rfl (by kernel_rfl) (fun _ _ _ h => h) (by rfl) hs ?_
                simp only [Act.put, List.setIfInBounds_toArray, List.set_cons_succ, List.set_cons_zero]
                refine Z_skipD 35 (some 129) rfl rfl (by kernel_rfl) (fun _ _ _ h => h) (by rfl) hs ?_
                simp only [Act.put, List.setIfInBounds_toArray, List.set_cons_succ, List.set_cons_zero]
                refine Z_skipD 36 (some 130) rfl rfl (by kernel_rfl) (fun _ _ _ h => h) (by rfl) hs ?_
                simp only [Act.put, List.setIfInBounds_toArray, List.set_cons_succ, List.set_cons_zero]
                refine Z_skipD 37 (some 131) rfl rfl (by kernel_rfl) (fun _ _ _ h => h) (by rfl) hs ?_
                simp only [Act.put, List.setIfInBounds_toArray, List.set_cons_succ, List.set_cons_zero]
                refine Z_skipD 38 (some 132) rfl rfl (by kernel_rfl) (fun _ _ _ h => h) (by rfl) hs ?_
                simp only [Act.put, List.setIfInBounds_toArray, List.set_cons_succ, List.set_cons_zero]
                refine Z_skipD 39 (some 133) rfl rfl (by kernel_rfl) (fun _ _ _ h => h) (by rfl) hs ?_
                simp only [Act.put, List.setIfInBounds_toArray, List.set_cons_succ, List.set_cons_zero]
                refine Z_skipD 40 (some 134) rfl rfl (by kernel_rfl) (fun _ _ _ h => h) (by rfl) hs ?_
                simp only [Act.put, List.setIfInBounds_toArray, List.set_cons_succ, List.set_cons_zero]
                refine Z_skipD 41 (some 135) rfl rfl (by kernel_rfl) (fun _ _ _ h => h) (by rfl) hs ?_
                simp only [Act.put, List.setIfInBounds_toArray, List.set_cons_succ, List.set_cons_zero]
                refine Z_skipD 42 (some 136) rfl rfl (by kernel_rfl) (fun _ _ _ h => h) (by rfl) hs ?_
                simp only [Act.put, List.setIfInBounds_toArray, List.set_cons_succ, List.set_cons_zero]
                refine Z_skipD 43 (some 137) rfl rfl (by kernel_rfl) (fun _ _ _ h => h) (by rfl) hs ?_
                simp only [Act.put, List.setIfInBounds_toArray, List.set_cons_succ, List.set_cons_zero]
                refine Z_takeD 44 (some 138) (v := ?_) rfl rfl (by kernel_rfl) (fun _ _ _ h => h) (by rfl) hs ?_ ?_
                rotate_left
                · intro wx hx; obtain ⟨s1, s2⟩ := hx; go_simp; try with_reducible rfl
                simp only [Act.put, List.setIfInBounds_toArray, List.set_cons_succ, List.set_cons_zero]
                refine Z_takeD 45 (some 139) (v := ?_) rfl rfl (by kernel_rfl) (fun _ _ _ h => h) (by rfl) hs ?_ ?_
                rotate_left
                · intro wx hx; obtain ⟨s1, s2⟩ := hx; go_simp; try with_reducible rfl
                simp only [Act.put, List.setIfInBounds_toArray, List.set_cons_succ, List.set_cons_zero]
                refine Z_done (by kernel_rfl) ?_ _
                have ca := HSW.out _ _ hHc
                clear hs
                go_wp2_with fail
                refine (block_any (j : Int) HS.out (hHc.sub (by (repeat' (first | refine sub_append ?_ ?_ | refine sub_cons ?_ ?_ | exact sub_nil)); all_goals first | (intro p hp; simp only [List.mem_append, List.mem_cons, hp, true_or, or_true]) | simp only [List.mem_append, List.mem_cons, true_or, or_true]) (fun b => by simp only [keyc_append, keyc_cons, keyc_nil]; omega) : Holds _ (Hs ++ (Hb ++ (Hc ++ allOf W)))) HYK.out (by omega) (by have := HB16.out; omega)).mono ?_
                rintro e wD ⟨vD, HY, rfl, hvD, hHy, hgy⟩
                obtain ⟨AY, cY, rfl⟩ := hvD.val
                rw [← HLN.out]
                have hHd : Holds wD (Hb ++ (Hs ++ (Hc ++ allOf W))) := by
                  have h : Holds wD (HY ++ (Hs ++ (Hb ++ (Hc ++ allOf W)))) := hHy
                  exact h.sub (by (repeat' (first | refine sub_append ?_ ?_ | refine sub_cons ?_ ?_ | exact sub_nil)); all_goals first | (intro p hp; simp only [List.mem_append, List.mem_cons, hp, true_or, or_true]) | simp only [List.mem_append, List.mem_cons, true_or, or_true]) (fun b => by simp only [keyc_append, keyc_cons, keyc_nil]; omega)
                have hGd := hGc.trans hgy
                have HAT2 := Lib.hid (show (az + (ln : Int)) = ((allTo s ((seaL s c).take (kk + 1)) : Nat) : Int) by have := HAT.out; rw [← HLN.out] at this; have := HAZ.out; omega)
                clear hvD hHy hgy hHc hGc ca hkd1 hkd2 hjp0 hjp1 hj0 hj15 hcnt hj16
                go_wp2_with fail
                have q4 : SlTo16 s c W Hb Hs Hc (.int .i64 (az + ln)) (.int .i64 ((kk : Int) + 1)) wD := ⟨kk + 1, hkl2, by go_num, congrArg (Value.int .i64) HAT2.out, hHd, hGd⟩
                refine ⟨q4, ?_⟩
                simp [intOf]; omega

              · obtain ⟨jp, hjlt, hjpc⟩ := HPV.out hk0
                have HSP := Lib.hid hjpc
                have hkd1 : decide ((0 : Int) < (kk : Int)) = true := decide_eq_true (by omega)
                have hkd2 : decide (0 < kk) = true := decide_eq_true (by omega)
                have hkm : IntKind.i64.wrap ((kk : Int) - 1) = ((kk - 1 : Nat) : Int) := by rw [wrap_i64_id (by omega) (by omega)]; omega
                have hkm2 : wrap64 ((kk : Int) - 1) = ((kk - 1 : Nat) : Int) := by unfold wrap64; omega
                have hkm3 : kk - 1 < (seaL s c).length := by omega
                have hjle : ¬ (j : Int) ≤ jp := by omega
                clear hjpc
                refine Z_begin (fun wx => wx.cell? ⟨b8, o8 + kk, none⟩ = some (.int .i64 (j : Nat)) ∧ wx.cell? ⟨b8, o8 + (kk - 1), none⟩ = some (.int .i64 (jp : Nat))) 46 (by kernel_rfl) (fun w1 hd => ⟨HSW.out _ _ (hHA.dr hd), HSP.out _ _ (hHA.dr hd)⟩) (fun w1 hd hs => ?_)
                have hHb := hHA.dr hd; have hGb := hGA.trans (Grew.dr hd); clear hd hHA hGA
                refine Z_takeD 0 (some 94) (v := ?_) rfl rfl (by kernel_rfl) (fun _ _ _ h => h) (by rfl) hs ?_ ?_
                rotate_left
                · intro wx hx; obtain ⟨s1, s2⟩ := hx; go_simp; try with_reducible rfl
                simp only [Act.put, List.setIfInBounds_toArray, List.set_cons_succ, List.set_cons_zero]
                refine Z_takeD 1 (some 95) (v := ?_) rfl rfl (by kernel_rfl) (fun _ _ _ h => h) (by rfl) hs ?_ ?_
                rotate_left
                · intro wx hx; obtain ⟨s1, s2⟩ := hx; go_simp; try with_reducible rfl
                simp only [Act.put, List.setIfInBounds_toArray, List.set_cons_succ, List.set_cons_zero]
                refine Z_takeD 2 (some 96) (v := ?_) rfl rfl (by kernel_rfl) (fun _ _ _ h => h) (by rfl) hs ?_ ?_
                rotate_left
                · intro wx hx; obtain ⟨s1, s2⟩ := hx; go_simp; try with_reducible rfl
                simp only [Act.put, List.setIfInBounds_toArray, List.set_cons_succ, List.set_cons_zero]
                refine Z_takeD 3 (some 97) (v := ?_) rfl rfl (by kernel_rfl) (fun _ _ _ h => h) (by rfl) hs ?_ ?_
                rotate_left
                · intro wx hx; obtain ⟨s1, s2⟩ := hx; go_simp; try with_reducible rfl
                simp only [Act.put, List.setIfInBounds_toArray, List.set_cons_succ, List.set_cons_zero]
                refine Z_takeD 4 (some 98) (v := ?_) rfl rfl (by kernel_rfl) (fun _ _ _ h => h) (by rfl) hs ?_ ?_
                rotate_left
                · intro wx hx; obtain ⟨s1, s2⟩ := hx; go_simp; try with_reducible rfl
                simp only [Act.put, List.setIfInBounds_toArray, List.set_cons_succ, List.set_cons_zero]
                refine Z_takeD 5 (some 99) (v := ?_) rfl rfl (by kernel_rfl) (fun _ _ _ h => h) (by rfl) hs ?_ ?_
                rotate_left
                · intro wx hx; obtain ⟨s1, s2⟩ := hx; go_simp; try with_reducible rfl
                simp only [Act.put, List.setIfInBounds_toArray, List.set_cons_succ, List.set_cons_zero]
                refine Z_takeD 6 (some 100) (v := ?_) rfl rfl (by kernel_rfl) (fun _ _ _ h => h) (by rfl) hs ?_ ?_
                rotate_left
                · intro wx hx; obtain ⟨s1, s2⟩ := hx; go_simp; try with_reducible rfl
                simp only [Act.put, List.setIfInBounds_toArray, List.set_cons_succ, List.set_cons_zero]
                refine Z_takeD 7 (some 101) (v := ?_) rfl rfl (by kernel_rfl) (fun _ _ _ h => h) (by rfl) hs ?_ ?_
                rotate_left
                · intro wx hx; obtain ⟨s1, s2⟩ := hx; go_simp; try with_reducible rfl
                simp only [Act.put, List.setIfInBounds_toArray, List.set_cons_succ, List.set_cons_zero]
                refine Z_takeD 8 (some 102) (v := ?_) rfl rfl (by kernel_rfl) (fun _ _ _ h => h) (by rfl) hs ?_ ?_
                rotate_left
                · intro wx hx; obtain ⟨s1, s2⟩ := hx; go_simp; try with_reducible rfl
                simp only [Act.put, List.setIfInBounds_toArray, List.set_cons_succ, List.set_cons_zero]
                refine Z_takeD 9 (some 103) (v := ?_) rfl rfl (by kernel_rfl) (fun _ _ _ h => h) (by rfl) hs ?_ ?_
                rotate_left
                · intro wx hx; obtain ⟨s1, s2⟩ := hx; go_simp; try with_reducible rfl
                simp only [Act.put, List.setIfInBounds_toArray, List.set_cons_succ, List.set_cons_zero]
                refine Z_takeD 10 (some 104) (v := ?_) rfl rfl (by kernel_rfl) (fun _ _ _ h => h) (by rfl) hs ?_ ?_
                rotate_left
                · intro wx hx; obtain ⟨s1, s2⟩ := hx; go_simp; try with_reducible rfl
                simp only [Act.put, List.setIfInBounds_toArray, List.set_cons_succ, List.set_cons_zero]
                refine Z_takeD 11 (some 105) (v := ?_) rfl rfl (by kernel_rfl) (fun _ _ _ h => h) (by rfl) hs ?_ ?_
                rotate_left
                · intro wx hx; obtain ⟨s1, s2⟩ := hx; go_simp; try with_reducible rfl
                simp only [Act.put, List.setIfInBounds_toArray, List.set_cons_succ, List.set_cons_zero]
                refine Z_takeD 12 (some 106) (v := ?_) rfl rfl (by kernel_rfl) (fun _ _ _ h => h) (by rfl) hs ?_ ?_
                rotate_left
                · intro wx hx; obtain ⟨s1, s2⟩ := hx; go_simp; try with_reducible rfl
                simp only [Act.put, List.setIfInBounds_toArray, List.set_cons_succ, List.set_cons_zero]
                refine Z_takeD 13 (some 107) (v := ?_) rfl rfl (by kernel_rfl) (fun _ _ _ h => h) (by rfl) hs ?_ ?_
                rotate_left
                · intro wx hx; obtain ⟨s1, s2⟩ := hx; go_simp; try with_reducible rfl
                simp only [Act.put, List.setIfInBounds_toArray, List.set_cons_succ, List.set_cons_zero]
                refine Z_takeD 14 (some 108) (v := ?_) rfl rfl (by kernel_rfl) (fun _ _ _ h => h) (by rfl) hs ?_ ?_
                rotate_left
                · intro wx hx; obtain ⟨s1, s2⟩ := hx; go_simp; try with_reducible rfl
                simp only [Act.put, List.setIfInBounds_toArray, List.set_cons_succ, List.set_cons_zero]
                refine Z_takeD 15 (some 109) (v := ?_) rfl rfl (by kernel_rfl) (fun _ _ _ h => h) (by rfl) hs ?_ ?_
                rotate_left
                · intro wx hx; obtain ⟨s1, s2⟩ := hx; go_simp; try with_reducible rfl
                simp only [Act.put, List.setIfInBounds_toArray, List.set_cons_succ, List.set_cons_zero]
                refine Z_takeD 16 (some 110) (v := ?_) rfl rfl (by kernel_rfl) (fun _ _ _ h => h) (by rfl) hs ?_ ?_
                rotate_left
                · intro wx hx; obtain ⟨s1, s2⟩ := hx; go_simp; try with_reducible rfl
                simp only [Act.put, List.setIfInBounds_toArray, List.set_cons_succ, List.set_cons_zero]
                refine Z_takeD 17 (some 111) (v := ?_) rfl rfl (by kernel_rfl) (fun _ _ _ h => h) (by rfl) hs ?_ ?_
                rotate_left
                · intro wx hx; obtain ⟨s1, s2⟩ := hx; go_simp; try with_reducible rfl
                simp only [Act.put, List.setIfInBounds_toArray, List.set_cons_succ, List.set_cons_zero]
                refine Z_mid 18 rfl (by kernel_rfl) (fun K hK => ?_)
                have ⟨s1, s2⟩ := hs
                go_simp; have hnm := nmarked_any (j : Int) HC.out (hHb.sub (by (repeat' (first | refine sub_append ?_ ?_ | refine sub_cons ?_ ?_ | exact sub_nil)); all_goals first | (intro p hp; simp only [List.mem_append, List.mem_cons, hp, true_or, or_true]) | simp only [List.mem_append, List.mem_cons, true_or, or_true]) (fun b => by simp only [keyc_append, keyc_cons, keyc_nil]; omega) : Holds w1 (Hc ++ (Hb ++ (Hs ++ allOf W)))); rw [HJM.out] at hnm; refine hnm.mono ?_; rintro e wB ⟨rfl, rfl⟩; clear hnm   -- call w
                clear s1 s2
                refine hK _ _ (⟨HSW.out _ _ (hHb), HSP.out _ _ (hHb)⟩) (fun hs2 => ?_); clear hK K hs; have hs := hs2; clear hs2
                refine Z_takeD 19 (some 113) (v := ?_) rfl rfl (by kernel_rfl) (fun _ _ _ h => h) (by rfl) hs ?_ ?_
                rotate_left
                · intro wx hx; obtain ⟨s1, s2⟩ := hx; go_simp; try with_reducible rfl
                simp only [Act.put, List.setIfInBounds_toArray, List.set_cons_succ, List.set_cons_zero]
                refine Z_takeD 20 (some 114) (v := ?_) rfl rfl (by kernel_rfl) (fun _ _ _ h => h) (by rfl) hs ?_ ?_
                rotate_left
                · intro wx hx; obtain ⟨s1, s2⟩ := hx; go_simp; try with_reducible rfl
                simp only [Act.put, List.setIfInBounds_toArray, List.set_cons_succ, List.set_cons_zero]
                refine Z_takeD 21 (some 115) (v := ?_) rfl rfl (by kernel_rfl) (fun _ _ _ h => h) (by rfl) hs ?_ ?_
                rotate_left
                · intro wx hx; obtain ⟨s1, s2⟩ := hx; go_simp; try with_reducible rfl
                simp only [Act.put, List.setIfInBounds_toArray, List.set_cons_succ, List.set_cons_zero]
                refine Z_takeD 22 (some 116) (v := ?_) rfl rfl (by kernel_rfl) (fun _ _ _ h => h) (by rfl) hs ?_ ?_
                rotate_left
                · intro wx hx; obtain ⟨s1, s2⟩ := hx; go_simp; try with_reducible rfl
                simp only [Act.put, List.setIfInBounds_toArray, List.set_cons_succ, List.set_cons_zero]
                refine Z_takeD 23 (some 117) (v := ?_) rfl rfl (by kernel_rfl) (fun _ _ _ h => h) (by rfl) hs ?_ ?_
                rotate_left
                · intro wx hx; obtain ⟨s1, s2⟩ := hx; go_simp; try with_reducible rfl
                simp only [Act.put, List.setIfInBounds_toArray, List.set_cons_succ, List.set_cons_zero]
                refine Z_takeD 24 (some 118) (v := ?_) rfl rfl (by kernel_rfl) (fun _ _ _ h => h) (by rfl) hs ?_ ?_
                rotate_left
                · intro wx hx; obtain ⟨s1, s2⟩ := hx; go_simp; try with_reducible rfl
                simp only [Act.put, List.setIfInBounds_toArray, List.set_cons_succ, List.set_cons_zero]
                refine Z_takeD 25 (some 119) (v := ?_) rfl rfl (by kernel_rfl) (fun _ _ _ h => h) (by rfl) hs ?_ ?_
                rotate_left
                · intro wx hx; obtain ⟨s1, s2⟩ := hx; go_simp; try with_reducible rfl
                simp only [Act.put, List.setIfInBounds_toArray, List.set_cons_succ, List.set_cons_zero]
                refine Z_mid 26 rfl (by kernel_rfl) (fun K hK => ?_)
                have ⟨s1, s2⟩ := hs
                go_simp; refine (block_any (j : Int) HS.out (hHb.sub (by (repeat' (first | refine sub_append ?_ ?_ | refine sub_cons ?_ ?_ | exact sub_nil)); all_goals first | (intro p hp; simp only [List.mem_append, List.mem_cons, hp, true_or, or_true]) | simp only [List.mem_append, List.mem_cons, true_or, or_true]) (fun b => by simp only [keyc_append, keyc_cons, keyc_nil]; omega) : Holds _ (Hs ++ (Hb ++ (Hc ++ allOf W)))) HYK.out (by omega) (by have := HB16.out; omega)).mono ?_; rintro e wC ⟨vC, HX, rfl, hvC, hHx, hgx⟩; obtain ⟨AX, cX, rfl⟩ := hvC.val; rw [← HLN.out]; have hHc : Holds wC (Hb ++ (Hs ++ (Hc ++ allOf W))) := by { have h : Holds wC (HX ++ (Hs ++ (Hb ++ (Hc ++ allOf W)))) := hHx; exact h.sub (by (repeat' (first | refine sub_append ?_ ?_ | refine sub_cons ?_ ?_ | exact sub_nil)); all_goals first | (intro p hp; simp only [List.mem_append, List.mem_cons, hp, true_or, or_true]) | simp only [List.mem_append, List.mem_cons, true_or, or_true]) (fun b => by simp only [keyc_append, keyc_cons, keyc_nil]; omega) }; have hGc := hGb.trans hgx; clear hvC hHx hgx hHb hGb   -- call w
                clear s1 s2
                refine hK _ _ (⟨HSW.out _ _ (hHc), HSP.out _ _ (hHc)⟩) (fun hs2 => ?_); clear hK K hs; have hs := hs2; clear hs2
                refine Z_takeD 27 (some 121) (v := ?_) rfl rfl (by kernel_rfl) (fun _ _ _ h => h) (by rfl) hs ?_ ?_
                rotate_left
                · intro wx hx; obtain ⟨s1, s2⟩ := hx; go_simp; try with_reducible rfl
                simp only [Act.put, List.setIfInBounds_toArray, List.set_cons_succ, List.set_cons_zero]
                refine Z_takeD 28 (some 122) (v := ?_) rfl rfl (by kernel_rfl) (fun _ _ _ h => h) (by rfl) hs ?_ ?_
                rotate_left
                · intro wx hx; obtain ⟨s1, s2⟩ := hx; go_simp; try with_reducible rfl
                simp only [Act.put, List.setIfInBounds_toArray, List.set_cons_succ, List.set_cons_zero]
                refine Z_takeD 29 (some 123) (v := ?_) rfl rfl (by kernel_rfl) (fun _ _ _ h => h) (by rfl) hs ?_ ?_
                rotate_left
                · intro wx hx; obtain ⟨s1, s2⟩ := hx; go_simp; try with_reducible rfl
                simp only [Act.put, List.setIfInBounds_toArray, List.set_cons_succ, List.set_cons_zero]
                refine Z_takeD 30 (some 124) (v := ?_) rfl rfl (by kernel_rfl) (fun _ _ _ h => h) (by rfl) hs ?_ ?_
                rotate_left
                · intro wx hx; obtain ⟨s1, s2⟩ := hx; go_simp; try with_reducible rfl
                simp only [Act.put, List.setIfInBounds_toArray, List.set_cons_succ, List.set_cons_zero]
                refine Z_takeD 31 (some 125) (v := ?_) rfl rfl (by kernel_rfl) (fun _ _ _ h => h) (by rfl) hs ?_ ?_
                rotate_left
                · intro wx hx; obtain ⟨s1, s2⟩ := hx; go_simp; try with_reducible rfl
                simp only [Act.put, List.setIfInBounds_toArray, List.set_cons_succ, List.set_cons_zero]
                refine Z_takeD 32 (some 126) (v := ?_) rfl rfl (by kernel_rfl) (fun _ _ _ h => h) (by rfl) hs ?_ ?_
                rotate_left
                · intro wx hx; obtain ⟨s1, s2⟩ := hx; go_simp; try with_reducible rfl
                simp only [Act.put, List.setIfInBounds_toArray, List.set_cons_succ, List.set_cons_zero]
                refine Z_takeD 33 (some 127) (v := ?_) rfl rfl (by kernel_rfl) (fun _ _ _ h => h) (by rfl) hs ?_ ?_
                rotate_left
                · intro wx hx; obtain ⟨s1, s2⟩ := hx; go_simp; try with_reducible rfl
                simp only [Act.put, List.setIfInBounds_toArray, List.set_cons_succ, List.set_cons_zero]
                refine Z_takeD 34 (some 128) (v := ?_) rfl rfl (by kernel_rfl) (fun _ _ _ h => h) (by rfl) hs ?_ ?_
                rotate_left
                · intro wx hx; obtain ⟨s1, s2⟩ := hx; go_simp; try with_reducible rfl
                simp only [Act.put, List.setIfInBounds_toArray, List.set_cons_succ, List.set_cons_zero]
                refine Z_takeD 35 (some 129) (v := ?_) rfl rfl (by kernel_rfl) (fun _ _ _ h => h) (by rfl) hs ?_ ?_
                rotate_left
                · intro wx hx; obtain ⟨s1, s2⟩ := hx; go_simp; try with_reducible rfl
                simp only [Act.put, List.setIfInBounds_toArray, List.set_cons_succ, List.set_cons_zero]
                refine Z_takeD 36 (some 130) (v := ?_) rfl rfl (by kernel_rfl) (fun _ _ _ h => h) (by rfl) hs ?_ ?_
                rotate_left
                · intro wx hx; obtain ⟨s1, s2⟩ := hx; go_simp; try with_reducible rfl
                simp only [Act.put, List.setIfInBounds_toArray, List.set_cons_succ, List.set_cons_zero]
                refine Z_takeD 37 (some 131) (v := ?_) rfl rfl (by kernel_rfl) (fun _ _ _ h => h) (by rfl) hs ?_ ?_
                rotate_left
                · intro wx hx; obtain ⟨s1, s2⟩ := hx; go_simp; try with_reducible rfl
                simp only [Act.put, List.setIfInBounds_toArray, List.set_cons_succ, List.set_cons_zero]
                refine Z_takeD 38 (some 132) (v := ?_) rfl rfl (by kernel_rfl) (fun _ _ _ h => h) (by rfl) hs ?_ ?_
                rotate_left
                · intro wx hx; obtain ⟨s1, s2⟩ := hx; go_simp; try with_reducible rfl
                simp only [Act.put, List.setIfInBounds_toArray, List.set_cons_succ, List.set_cons_zero]
                refine Z_takeD 39 (some 133) (v := ?_) rfl rfl (by kernel_rfl) (fun _ _ _ h => h) (by rfl) hs ?_ ?_
                rotate_left
                · intro wx hx; obtain ⟨s1, s2⟩ := hx; go_simp; try with_reducible rfl
                simp only [Act.put, List.setIfInBounds_toArray, List.set_cons_succ, List.set_cons_zero]
                refine Z_takeD 40 (some 134) (v := ?_) rfl rfl (by kernel_rfl) (fun _ _ _ h => h) (by rfl) hs ?_ ?_
                rotate_left
                · intro wx hx; obtain ⟨s1, s2⟩ := hx; go_simp; try with_reducible rfl
                simp only [Act.put, List.setIfInBounds_toArray, List.set_cons_succ, List.set_cons_zero]
                refine Z_takeD 41 (some 135) (v := ?_) rfl rfl (by kernel_rfl) (fun _ _ _ h => h) (by rfl) hs ?_ ?_
                rotate_left
                · intro wx hx; obtain ⟨s1, s2⟩ := hx; go_simp; try with_reducible rfl
                simp only [Act.put, List.setIfInBounds_toArray, List.set_cons_succ, List.set_cons_zero]
                refine Z_takeD 42 (some 136) (v := ?_) rfl rfl (by kernel_rfl) (fun _ _ _ h => h) (by rfl) hs ?_ ?_
                rotate_left
                · intro wx hx; obtain ⟨s1, s2⟩ := hx; go_simp; try with_reducible rfl
                simp only [Act.put, List.setIfInBounds_toArray, List.set_cons_succ, List.set_cons_zero]
                refine Z_takeD 43 (some 137) (v := ?_) rfl rfl (by kernel_rfl) (fun _ _ _ h => h) (by rfl) hs ?_ ?_
                rotate_left
                · intro wx hx; obtain ⟨s1, s2⟩ := hx; go_simp; try with_reducible rfl
                simp only [Act.put, List.setIfInBounds_toArray, List.set_cons_succ, List.set_cons_zero]
                refine Z_takeD 44 (some 138) (v := ?_) rfl rfl (by kernel_rfl) (fun _ _ _ h => h) (by rfl) hs ?_ ?_
                rotate_left
                · intro wx hx; obtain ⟨s1, s2⟩ := hx; go_simp; try with_reducible rfl
                simp only [Act.put, List.setIfInBounds_toArray, List.set_cons_succ, List.set_cons_zero]
                refine Z_takeD 45 (some 139) (v := ?_) rfl rfl (by kernel_rfl) (fun _ _ _ h => h) (by rfl) hs ?_ ?_
                rotate_left
                · intro wx hx; obtain ⟨s1, s2⟩ := hx; go_simp; try with_reducible rfl
                simp only [Act.put, List.setIfInBounds_toArray, List.set_cons_succ, List.set_cons_zero]
                refine Z_done (by kernel_rfl) ?_ _
                have ca := HSW.out _ _ hHc
                clear hs
                go_wp2_with fail
                refine (block_any (j : Int) HS.out (hHc.sub (by (repeat' (first | refine sub_append ?_ ?_ | refine sub_cons ?_ ?_ | exact sub_nil)); all_goals first | (intro p hp; simp only [List.mem_append, List.mem_cons, hp, true_or, or_true]) | simp only [List.mem_append, List.mem_cons, true_or, or_true]) (fun b => by simp only [keyc_append, keyc_cons, keyc_nil]; omega) : Holds _ (Hs ++ (Hb ++ (Hc ++ allOf W)))) HYK.out (by omega) (by have := HB16.out; omega)).mono ?_
                rintro e wD ⟨vD, HY, rfl, hvD, hHy, hgy⟩
                obtain ⟨AY, cY, rfl⟩ := hvD.val
                rw [← HLN.out]
                have hHd : Holds wD (Hb ++ (Hs ++ (Hc ++ allOf W))) := by
                  have h : Holds wD (HY ++ (Hs ++ (Hb ++ (Hc ++ allOf W)))) := hHy
                  exact h.sub (by (repeat' (first | refine sub_append ?_ ?_ | refine sub_cons ?_ ?_ | exact sub_nil)); all_goals first | (intro p hp; simp only [List.mem_append, List.mem_cons, hp, true_or, or_true]) | simp only [List.mem_append, List.mem_cons, true_or, or_true]) (fun b => by simp only [keyc_append, keyc_cons, keyc_nil]; omega)
                have hGd := hGc.trans hgy
                have HAT2 := Lib.hid (show (az + (ln : Int)) = ((allTo s ((seaL s c).take (kk + 1)) : Nat) : Int) by have := HAT.out; rw [← HLN.out] at this; have := HAZ.out; omega)
                clear hvD hHy hgy hHc hGc ca hkd1 hkd2 hjp0 hjp1 hj0 hj15 hcnt hj16 hkm hkm2 hkm3 hjle hjlt
                go_wp2_with fail
                have q4 : SlTo16 s c W Hb Hs Hc (.int .i64 (az + ln)) (.int .i64 ((kk : Int) + 1)) wD := ⟨kk + 1, hkl2, by go_num, congrArg (Value.int .i64) HAT2.out, hHd, hGd⟩
                refine ⟨q4, ?_⟩
                simp [intOf]; omega

            · have hkx : ¬ (kk : Int) < (seaL s c).length := by omega
              obtain rfl : kk = (seaL s c).length := by omega
              rw [List.take_length]
              have HND := Lib.hid (HN2.out wr (Hb ++ (Hc ++ allOf W)) (hHA.sub (by (repeat' (first | refine sub_append ?_ ?_ | refine sub_cons ?_ ?_ | exact sub_nil)); all_goals first | (intro p hp; simp only [List.mem_append, List.mem_cons, hp, true_or, or_true]) | simp only [List.mem_append, List.mem_cons, true_or, or_true]) (fun b => by simp only [keyc_append, keyc_cons, keyc_nil]; omega)))
              obtain ⟨l1, l2⟩ := HLEFT.out
              obtain ⟨az, haz⟩ : ∃ az : Int, az = ((allTo s (seaL s c) : Nat) : Int) := ⟨_, rfl⟩
              rw [← haz]
              obtain ⟨nl, hnl⟩ : ∃ nl, nl = (neededS s).length := ⟨_, rfl⟩
              have HNL := Lib.hid hnl
              have hl64 : nl ≤ 64 := by
                have := cntTo_le (isN s) 64 64 fun j hj _ => hj
                rw [hnl, HNDL.out]
                exact this
              have hb1 : 0 ≤ (nl : Int) - az := by omega
              have hb2 : (nl : Int) - az ≤ 4 := by omega
              have hbw : IntKind.i64.wrap ((nl : Int) - az) = nl - az := wrap_i64_id (by omega) (by omega)
              have hbw2 : wrap64 ((nl : Int) - az) = nl - az := by unfold wrap64; omega
              generalize neededS s = ND at *
              clear l1 l2 haz hnl hkk hkl
              go_wp2_with fail
              refine HND.out.mono ?_
              rintro e w5 ⟨v5, H5, rfl, hv5, hH5, hg5⟩
              obtain ⟨A5, c5, rfl⟩ := hv5.val
              rw [← HNL.out]
              have hG5 := hGA.trans hg5
              have hbd := bad_any HS.out HC.out (w := w5) (Fr := allOf W) (by have h : Holds w5 (H5 ++ (Hs ++ (Hb ++ (Hc ++ allOf W)))) := hH5; exact h.sub (by (repeat' (first | refine sub_append ?_ ?_ | refine sub_cons ?_ ?_ | exact sub_nil)); all_goals first | (intro p hp; simp only [List.mem_append, List.mem_cons, hp, true_or, or_true]) | simp only [List.mem_append, List.mem_cons, true_or, or_true]) (fun b => by simp only [keyc_append, keyc_cons, keyc_nil]; omega))
              rw [HBAD.out, HB16.out] at hbd
              have HBD := Lib.hid hbd
              have hbm : ((mkTo mk 16 : Nat) : Int) ≤ marks.length := by omega
              generalize ((mkTo mk 16 : Nat) : Int) = bz at *
              clear hv5 hH5 hg5 hbd hHA hGA hkx
              go_wp2_with fail
              refine HBD.out.mono ?_
              rintro e w6 ⟨rfl, hH6, hg6⟩
              have hG6 := hG5.trans hg6
              have HAW := Lib.hid (awake16_any w6 (allOf W) hH6.right.right)
              clear hH6 hg6 hG5 HBD
              go_wp2_with fail
              refine HAW.out.mono ?_
              rintro e wy ⟨rfl, hHy, hgy⟩
              have hGy := hG6.trans hgy
              clear HAW hgy hG6
              go_wp2_with fail
              go_ret
              exact ⟨rfl, hHy, hGy⟩
end Go.Proofs.YtoelopghilbfeaaGreat
