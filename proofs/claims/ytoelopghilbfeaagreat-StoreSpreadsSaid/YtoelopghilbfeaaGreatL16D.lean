/-
  Chapter 16: StoreSpreads.
-/
import Derived.Test.YtoelopghilbfeaaGreatSpJ
import Derived.Test.YtoelopghilbfeaaGreatL16
namespace Go.Proofs.YtoelopghilbfeaaGreat
open Go.RowKit
set_option linter.unusedSimpArgs false
set_option linter.unusedVariables false

theorem may_late {k s : Int} (h1 : 3 ≤ k) (h2 : k ≤ 4) (h3 : 1 ≤ s) (h4 : s ≤ 1099511627775) : (⟨k, 0, s, 0⟩ : Hd).may = true := by
  unfold Hd.may
  simp
  omega
/-- a store and its chip, worn evenly, behind n puts -/
def SprTo (sb cb g cap : Nat) (mv : Value) (W : World) (F : HL) (n : Nat) (old : Int) (wr : World) : Prop :=
  ∃ (s : SM) (c : CM) (Hs Hc : HL), SprI n old s c ∧ StAt sb cb s Hs ∧ ChipAt cb g cap mv c Hc ∧ Holds wr (Hs ++ (Hc ++ F)) ∧ Grew W wr
set_option maxRecDepth 100000 in
set_option maxHeartbeats 4000000 in
theorem spreads16_walk (many kind : Int) (W : World) : Calls Tryz.prog 3 #[.int .i64 many, .int .i64 kind] W (RetFr (.bool true) W (allOf W)) := by
  have hH := holds_all W
  have k1 := err_eq
  have k2 := nil_eq
  have k3 := err_ne
  have k4 := nil_ne
  have HLO := Lib.hid (low_any many 301 W (by decide) (by decide))
  have HLK := Lib.hid (fun w => low_any kind 2 w (by decide) (by decide))
  obtain ⟨hl1, hl2⟩ := low_bd many 301 (by decide) (by decide)
  obtain ⟨hk1, hk2⟩ := low_bd kind 2 (by decide) (by decide)
  generalize lowI many 301 = mz at *
  generalize lowI kind 2 = kz at *
  obtain ⟨m, rfl⟩ : ∃ m : Nat, mz = (m : Int) := ⟨mz.toNat, by omega⟩
  have HGE := Lib.hid (l16geo_any W (allOf W) hH)
  clear hH
  go_enter Tryz.func3, Tryz.ntmps3
  go_wp2_with fail
  refine HLO.out.mono ?_
  rintro e wx ⟨rfl, rfl⟩
  go_wp2_with fail
  refine HGE.out.mono ?_
  rintro e w1 ⟨rfl, hH1, hg1⟩
  have HN := Lib.hid (nnew_plain w1 _ hH1)
  clear hH1 HGE HLO
  go_wp2_with fail
  refine HN.out.mono ?_
  rintro e w2 ⟨dv, H0, rfl, ⟨cb, g, cap, mv, rfl, hc0⟩, hH2, hg2⟩
  have hG2 := hg1.trans hg2
  have HNW := Lib.hid (new_any hc0 hH2 aw_plan rfl (by show (0 : Int) ≤ 999999998000; omega))
  rw [awN] at HNW
  clear hc0 hH2 hg1 hg2 HN
  go_wp2_with fail
  refine HNW.out.mono ?_
  rintro e w3 (⟨h0, sb, Hs, Hc, rfl, hs, hch, hH3, hg3⟩ | ⟨h0, _⟩)
  rotate_left
  · exact absurd rfl h0
  dsimp only at hs hch
  have hG3 := hG2.trans hg3
  have hst : SprTo sb cb g cap mv W (allOf W) 0 (-1) w3 := ⟨_, _, Hs, Hc, spr_start, hs, hch, hH3, hG3⟩
  clear h0 hs hch hH3 hg3 hG2 HNW hG3
  go_wp2_with fail
  go_loopw [8, 9] (fun old i wr => ∃ (n : Nat) (o : Int), n ≤ m ∧ i = .int .i64 n ∧ old = .int .i64 o ∧ SprTo sb cb g cap mv W (allOf W) n o wr) (fun _ i _ => m - (intOf i).toNat)
  case atStart => exact ⟨0, -1, by omega, rfl, rfl, hst⟩
  case round =>
    clear hst
    obtain ⟨n, o, hnm, rfl, rfl, s, c, Hs, Hc, hI, hs, hch, hH3, hG3⟩ := hrel
    by_cases hlt : n < m
    · have hnlt : (n : Int) < m := by omega
      have hw1 : IntKind.i64.wrap (3 + kz) = 3 + kz := wrap_i64_id (by omega) (by omega)
      have hw2 : IntKind.i64.wrap (1 + (n : Int)) = 1 + n := wrap_i64_id (by omega) (by omega)
      have hw3 : wrap64 (3 + kz) = 3 + kz := by unfold wrap64; omega
      have hw4 : wrap64 (1 + (n : Int)) = 1 + n := by unfold wrap64; omega
      have hw5 : IntKind.i64.wrap ((n : Int) + 1) = n + 1 := wrap_i64_id (by omega) (by omega)
      have HFL := Lib.hid (fun (w : World) (F : HL) (h : Holds w F) => fill_any (n : Int) 128 w F h (by decide))
      have hDl := fillL_len (n : Int)
      generalize fillL (n : Int) 128 = D at *
      have HDL := Lib.hid hDl
      have HI := Lib.hid hI
      have HMAY := Lib.hid (may_late (k := 3 + kz) (s := 1 + n) (by omega) (by omega) (by omega) (by omega))
      have HS := Lib.hid hs
      have HCH := Lib.hid hch
      have HH3 := Lib.hid hH3
      have HG3 := Lib.hid hG3
      clear hDl hI hs hch hH3 hG3
      go_wp2_with fail
      refine (HLK.out _).mono ?_
      rintro e wx ⟨rfl, rfl⟩
      have HF1 := Lib.hid (HFL.out wr _ HH3.out)
      clear HFL HH3
      go_wp2_with fail
      refine HF1.out.mono ?_
      rintro e w4 ⟨v4, H4, rfl, hb4, hH4, hg4⟩
      have hG4 := HG3.out.trans hg4
      obtain ⟨A4, q4, rfl⟩ := hb4.val
      have hZ : c.Z = s.Z := HI.out.cont.Z
      have hBl : c.blocks.length = s.B := HI.out.cont.B
      have hgeo := HI.out.geo
      have HPU := Lib.hid (put_any ⟨3 + kz, 0, 1 + n, 0⟩ D _ HS.out HCH.out (Fr := H4 ++ allOf W) (hH4.sub (by (repeat' (first | refine sub_append ?_ ?_ | refine sub_cons ?_ ?_ | exact sub_nil)); all_goals first | (intro p hp; simp only [List.mem_append, List.mem_cons, hp, true_or, or_true]) | simp only [List.mem_append, List.mem_cons, true_or, or_true]) (fun b => by simp only [keyc_append, keyc_cons, keyc_nil]; omega)) HI.out.cont.yok (by omega) (by have := HI.out.ops; omega) hBl hZ (fun wx hx => hb4.at_ (Fr := Hs ++ (Hc ++ allOf W)) (hx.sub (by (repeat' (first | refine sub_append ?_ ?_ | refine sub_cons ?_ ?_ | exact sub_nil)); all_goals first | (intro p hp; simp only [List.mem_append, List.mem_cons, hp, true_or, or_true]) | simp only [List.mem_append, List.mem_cons, true_or, or_true]) (fun b => by simp only [keyc_append, keyc_cons, keyc_nil]; omega))) ⟨by show (0 : Int) ≤ 0; omega, by show (0 : Int) < 18446744073709551616; omega⟩)
      have HP := Lib.hid (HI.out.put (by omega) HMAY.out (d := D) ⟨by show (0 : Int) ≤ 0; omega, by show (0 : Int) < 18446744073709551616; omega⟩ HDL.out)
      simp only [Hd.agg, Hd.cells] at HPU
      generalize putA s c ⟨3 + kz, 0, 1 + n, 0⟩ D = r at *
      obtain ⟨s5, c5, p5, code5⟩ := r
      dsimp only at HPU HP
      obtain ⟨hc5, hp5, hneg, hpos⟩ := HP.out
      subst hc5
      have HNEG := Lib.hid hneg
      have HPOS := Lib.hid hpos
      clear hH4 hg4 HF1 hb4 HG3 hZ hBl hgeo HP hneg hpos
      go_wp2_with fail
      refine HPU.out.mono ?_
      rintro e w5 ⟨ve5, He5, Hs5, Hc5, rfl, he5, hs5, hch5, hH5, hg5⟩
      dsimp only at he5 hs5 hch5
      obtain ⟨rfl, rfl⟩ := isErr0 he5
      have hG5 := hG4.trans hg5
      have HS5 := Lib.hid hs5
      have HC5 := Lib.hid hch5
      have hH6 : Holds w5 (Hs5 ++ (Hc5 ++ allOf W)) := by
        have h6 : Holds w5 (Hs5 ++ (Hc5 ++ ([] ++ (H4 ++ allOf W)))) := hH5
        exact h6.sub (by (repeat' (first | refine sub_append ?_ ?_ | refine sub_cons ?_ ?_ | exact sub_nil)); all_goals first | (intro p hp; simp only [List.mem_append, List.mem_cons, hp, true_or, or_true]) | simp only [List.mem_append, List.mem_cons, true_or, or_true]) (fun b => by simp only [keyc_append, keyc_cons, keyc_nil]; omega)
      clear he5 hs5 hch5 hH5 hg5 hG4 HPU HS HCH HI HMAY HDL
      go_upto_region 11 with fail
      go_cut [63] (fun v wx => v = .bool false ∧ SprTo sb cb g cap mv W (allOf W) (n + 1) p5 wx)
      case first =>
        by_cases ho : 0 ≤ o
        · obtain ⟨hd1, hd2⟩ := HPOS.out ho
          have HDR := Lib.hid (drop_any o HS5.out hH6)
          rw [hd1] at HDR
          generalize (dropS s5 o).1 = s6 at *
          clear hH6 HNEG HPOS hd1
          go_wp2_with fail
          refine HDR.out.mono ?_
          rintro e w6 ⟨ve6, He6, Hs6, rfl, he6, hs6, hH7, hg7⟩
          obtain ⟨rfl, rfl⟩ := isErr0 he6
          have hG7 := hG5.trans hg7
          clear HDR hg7 hG5 he6
          go_wp2_with fail
          go_meet
          exact ⟨rfl, s6, c5, Hs6, Hc5, hd2, hs6, HC5.out, hH7, hG7⟩
        · obtain ⟨rfl, hd2⟩ := HNEG.out (by omega)
          clear HNEG HPOS ho
          go_wp2_with fail
          go_meet
          exact ⟨rfl, s5, c5, Hs5, Hc5, hd2, HS5.out, HC5.out, hH6, hG5⟩
      case rest =>
        clear hH6 hG5 HNEG HPOS HS5 HC5
        obtain ⟨rfl, s7, c7, Hs7, Hc7, hI7, hs7, hch7, hH7, hG7⟩ := hcut
        have HW := Lib.hid (fun k : Int => nwear_any k hch7 hH7.swap)
        obtain ⟨m0, hev⟩ := hI7.even
        have HE := Lib.hid hev.e1
        have HWB := Lib.hid hI7.wear
        have hm0 := hev.m0
        have hb0 := hev.e1 0 (by omega)
        have hb1 := hI7.wear 0 (by omega)
        have HFIN := Lib.hid (show SprTo sb cb g cap mv W (allOf W) (n + 1) p5 wc from ⟨s7, c7, Hs7, Hc7, hI7, hs7, hch7, hH7, hG7⟩)
        have hW0 : ∀ j : Nat, j < 16 → m0 ≤ c7.wearOf j ∧ c7.wearOf j ≤ m0 + 2 := fun j hj => hev.e1 j hj
        have HW0 := Lib.hid hW0
        have hw0 : m0 ≤ c7.wearOf 0 ∧ c7.wearOf 0 ≤ m0 + 2 := hW0 0 (by omega)
        have hwb0 : 0 ≤ c7.wearOf 0 ∧ c7.wearOf 0 ≤ (n + 1 : Nat) := hb1
        clear hev hI7 hs7 hch7 hH7 hG7 hb0 hb1 hW0
        go_wp2_with fail
        refine (HW.out 0).mono ?_
        rintro e w8 ⟨rfl, rfl⟩
        go_wp2_with fail
        refine (HW.out 0).mono ?_
        rintro e w8 ⟨rfl, rfl⟩
        generalize c7.wearOf 0 = z0 at *
        go_wp2_with fail
        go_loopw [12, 13, 14] (fun lo hi b wy => ∃ (lz hz : Int) (k : Nat), lo = .int .i64 lz ∧ hi = .int .i64 hz ∧ b = .int .i64 k ∧ k ≤ 16 ∧ m0 ≤ lz ∧ lz ≤ m0 + 2 ∧ m0 ≤ hz ∧ hz ≤ m0 + 2 ∧ wy = wc) (fun _ _ b _ => 16 - (intOf b).toNat)
        case atStart => exact ⟨z0, z0, 1, rfl, rfl, rfl, by omega, by omega, by omega, by omega, by omega, rfl⟩
        case round =>
          obtain ⟨lz, hz, k, rfl, rfl, rfl, hk, hz1, hz2, hz3, hz4, rfl⟩ := hrel
          by_cases hk16 : k < 16
          · have hkk : (k : Int) < 16 := by omega
            have hkw : IntKind.i64.wrap ((k : Int) + 1) = k + 1 := wrap_i64_id (by omega) (by omega)
            obtain ⟨hwk1, hwk2⟩ := HW0.out k hk16
            have HWK := Lib.hid (HW.out k)
            generalize c7.wearOf k = wk at *
            go_wp2_with fail
            refine HWK.out.mono ?_
            rintro e w8 ⟨rfl, rfl⟩
            go_wp2_with fail
            refine HWK.out.mono ?_
            rintro e w8 ⟨rfl, rfl⟩
            go_wp2_with fail
            exact ⟨⟨min lz wk, max hz wk, k + 1, rfl, rfl, by go_num, by omega, by omega, by omega, by omega, by omega, trivial⟩, by simp [intOf]; omega⟩
          · have hkk : ¬ (k : Int) < 16 := by omega
            have hkw : IntKind.i64.wrap (hz - lz) = hz - lz := wrap_i64_id (by omega) (by omega)
            have hkw2 : wrap64 (hz - lz) = hz - lz := by unfold wrap64; omega
            have hle : hz - lz ≤ 2 := by omega
            have hnle : ¬ (2 < hz - lz) := by omega
            go_wp2_with fail
            go_roundw
            case rel => exact ⟨n + 1, p5, by omega, by go_num, rfl, HFIN.out⟩
            case measure => simp [intOf]; omega
    · obtain rfl : n = m := by omega
      have HMI := Lib.hid (nmisuse_any hch hH3.swap)
      rw [hI.mis] at HMI
      have HAW := Lib.hid (awake16_any wr (allOf W) hH3.right.right)
      clear hI hs hch hH3
      go_wp2_with fail
      refine HMI.out.mono ?_
      rintro e wx ⟨rfl, rfl⟩
      go_wp2_with fail
      refine HAW.out.mono ?_
      rintro e wy ⟨rfl, hHy, hgy⟩
      have hGy := hG3.trans hgy
      clear HMI HAW hgy hG3
      go_wp2_with fail
      go_ret
      exact ⟨rfl, hHy, hGy⟩
end Go.Proofs.YtoelopghilbfeaaGreat
