/-
  Chapter 16: StoreKeeps.
-/
import Derived.Test.YtoelopghilbfeaaGreatSpK
import Derived.Test.YtoelopghilbfeaaGreatL16
namespace Go.Proofs.YtoelopghilbfeaaGreat
open Go.RowKit
set_option linter.unusedSimpArgs false
set_option linter.unusedVariables false

theorem hdK_agg (κ : Int) (n : Nat) : (hdK κ n).agg = .agg #[.int .i64 κ, .int .u64 n, .int .i64 (1 + n), .int .i64 0] := rfl
/-- a store and its chip, behind n puts: pages pg stay, o is the one that goes next -/
def KeTo (S M sb cb g cap : Nat) (mv : Value) (W : World) (pv ov iv : Value) (wr : World) : Prop :=
  ∃ (n : Nat) (o : Int) (pg : List Nat) (L : List (Nat × Nat)) (s : SM) (c : CM) (Hp Hs Hc : HL), n ≤ S + M ∧ pg.length = min n S ∧ iv = .int .i64 n ∧ ov = .int .i64 o ∧ IsNums pv (pg.map fun q : Nat => (q : Int)) Hp ∧ KeepI n pg o s c L ∧ StAt sb cb s Hs ∧ ChipAt cb g cap mv c Hc ∧ Holds wr (Hs ++ (Hc ++ (Hp ++ allOf W))) ∧ Grew W wr
/-- behind so many rounds -/
def KRd16 (cb g cap : Nat) (mv : Value) (W : World) (L : List (Nat × Nat)) (Hp : HL) (sv iv : Value) (wr : World) : Prop :=
  ∃ (r sb : Nat) (s : SM) (c : CM) (Hs Hc : HL), r ≤ 2 ∧ sv = .pointer (some ⟨sb, 0, none⟩) ∧ iv = .int .i64 r ∧ HasI 1 L s c ∧ c.on = true ∧ (∀ m ∈ c.ms, m.kind ≠ 2) ∧ c.misuse = 0 ∧ c.ops ≤ 1000 + 10000 * r ∧ StAt sb cb s Hs ∧ ChipAt cb g cap mv c Hc ∧ Holds wr (Hs ++ (Hc ++ (Hp ++ allOf W))) ∧ Grew W wr
/-- behind so many pages that were got -/
def KGt16 (cb g cap : Nat) (mv : Value) (W : World) (c : CM) (pg : List Nat) (Hs Hp : HL) (iv : Value) (wr : World) : Prop :=
  ∃ (k : Nat) (c' : CM) (Hc : HL), k ≤ pg.length ∧ iv = .int .i64 k ∧ Reads c c' ∧ c'.on = true ∧ c'.ops ≤ c.ops + k ∧ ChipAt cb g cap mv c' Hc ∧ Holds wr (Hs ++ (Hc ++ (Hp ++ allOf W))) ∧ Grew W wr
theorem KeepI.live_on {n : Nat} {pg : List Nat} {o : Int} {s : SM} {c : CM} {L : List (Nat × Nat)} (I : KeepI n pg o s c L) : c.on = true := I.law.live.on
set_option maxRecDepth 100000 in
set_option maxHeartbeats 4000000 in
theorem keeps16_walk (stay many : Int) (W : World) : Calls Tryz.prog 5 #[.int .i64 stay, .int .i64 many] W (RetFr (.bool true) W (allOf W)) := by
  have hH := holds_all W
  have k1 := err_eq
  have k2 := nil_eq
  have k3 := err_ne
  have k4 := nil_ne
  have HLO := Lib.hid (low_any stay 13 W (by decide) (by decide))
  have HLK := Lib.hid (low_any many 301 W (by decide) (by decide))
  obtain ⟨hl1, hl2⟩ := low_bd stay 13 (by decide) (by decide)
  obtain ⟨hk1, hk2⟩ := low_bd many 301 (by decide) (by decide)
  generalize lowI stay 13 = mz at *
  generalize lowI many 301 = kz at *
  obtain ⟨S, rfl⟩ : ∃ m : Nat, mz = (m : Int) := ⟨mz.toNat, by omega⟩
  obtain ⟨M, rfl⟩ : ∃ m : Nat, kz = (m : Int) := ⟨kz.toNat, by omega⟩
  have hsm : IntKind.i64.wrap ((S : Int) + M) = S + M := wrap_i64_id (by omega) (by omega)
  have hsm2 : wrap64 ((S : Int) + M) = S + M := by unfold wrap64; omega
  have HGE := Lib.hid (l16geo_any W (allOf W) hH)
  clear hH
  go_enter Tryz.func5, Tryz.ntmps5
  go_wp2_with fail
  refine HLO.out.mono ?_
  rintro e wx ⟨rfl, rfl⟩
  go_wp2_with fail
  refine HLK.out.mono ?_
  rintro e wx ⟨rfl, rfl⟩
  go_wp2_with fail
  refine HGE.out.mono ?_
  rintro e w1 ⟨rfl, hH1, hg1⟩
  have HN := Lib.hid (nnew_plain w1 _ hH1)
  clear hH1 HGE HLO HLK
  go_wp2_with fail
  refine HN.out.mono ?_
  rintro e w2 ⟨dv, H0, rfl, ⟨cb, g, cap, mv, rfl, hc0⟩, hH2, hg2⟩
  have hG2 := hg1.trans hg2
  have HNW := Lib.hid (new_any hc0 hH2 aw_plan rfl (by show (0 : Int) ≤ 999999998000; omega))
  rw [awN] at HNW
  clear hc0 hH2 hg1 hg2 HN
  go_wp2_with fail
  refine HNW.out.mono ?_
  rintro e w3 (⟨h0, sb, Hs, Hc, rfl, hs, hch, hH3, hg3⟩ | ⟨h0, _⟩)
  rotate_left
  · exact absurd rfl h0
  dsimp only at hs hch
  have hG3 := hG2.trans hg3
  have hst : KeTo S M sb cb g cap mv W (.slice none 0 0) (.int .i64 (-1)) (.int .i64 0) w3 := ⟨0, -1, [], [], _, _, [], Hs, Hc, by omega, by simp, rfl, rfl, IsRow.nil _ _, keepI_start, hs, hch, hH3, hG3⟩
  clear h0 hs hch hH3 hg3 hG2 HNW hG3
  go_wp2_with fail
  go_loopw [8, 9, 10] (fun pv ov iv wr => KeTo S M sb cb g cap mv W pv ov iv wr) (fun _ _ i _ => S + M - (intOf i).toNat)
  case atStart => exact hst
  case round =>
    clear hst
    obtain ⟨n, o, pg, L, s, c, Hp, Hs, Hc, hnm, hpl, rfl, rfl, hpv, hI, hs, hch, hH3, hG3⟩ := hrel
    by_cases hlt : n < S + M
    · have hnlt : (n : Int) < S + M := by omega
      have hw2 : IntKind.i64.wrap (1 + (n : Int)) = 1 + n := wrap_i64_id (by omega) (by omega)
      have hw4 : wrap64 (1 + (n : Int)) = 1 + n := by unfold wrap64; omega
      have hw5 : IntKind.i64.wrap ((n : Int) + 1) = n + 1 := wrap_i64_id (by omega) (by omega)
      have hw6 : IntKind.u64.wrap (n : Int) = n := by rw [IntKind.wrap_u64]; omega
      have HFL := Lib.hid (fill_any (n : Int) 128 wr _ hH3 (by decide))
      have hDl := fillL_len (n : Int)
      have hgeo := hI.law.has.geo
      have hpg12 : pg.length ≤ 12 := by omega
      have HPL := Lib.hid hpl
      clear hpl
      have HP := Lib.hid (hI.put hpg12 (by omega))
      have HPU := Lib.hid (fun (w : World) (F : HL) (dv : Value) (h : Holds w (Hs ++ (Hc ++ F))) (hf : FrBytes (Hs ++ (Hc ++ F)) dv (fillL n 128)) => put_any (hdK 1 n) (fillL n 128) dv hs hch h hI.law.has.cont.yok (by omega) (by have := hI.law.ops; omega) hI.law.has.cont.B hI.law.has.cont.Z hf (hdK_may (Or.inl rfl) (by omega)).2)
      rw [hdK_agg] at HPU
      generalize fillL (n : Int) 128 = D at *
      have HDL := Lib.hid hDl
      have HPV := Lib.hid hpv
      have HG3 := Lib.hid hG3
      generalize putA s c (hdK 1 n) D = r at *
      obtain ⟨s5, c5, p5, code5⟩ := r
      dsimp only at HPU HP
      obtain ⟨A8, c8, rfl⟩ := hpv.val
      rw [List.length_map] at HPV ⊢
      clear hDl hI hs hch hH3 hG3 hpv hgeo
      go_wp2_with fail
      refine HFL.out.mono ?_
      rintro e w4 ⟨v4, H4, rfl, hb4, hH4, hg4⟩
      have hG4 := HG3.out.trans hg4
      have HPW := Lib.hid (HPU.out w4 (Hp ++ (H4 ++ allOf W)) v4 (hH4.sub (by (repeat' (first | refine sub_append ?_ ?_ | refine sub_cons ?_ ?_ | exact sub_nil)); all_goals first | (intro p hp; simp only [List.mem_append, List.mem_cons, hp, true_or, or_true]) | simp only [List.mem_append, List.mem_cons, true_or, or_true]) (fun b => by simp only [keyc_append, keyc_cons, keyc_nil]; omega)) (fun wx hx => hb4.at_ (Fr := Hs ++ (Hc ++ (Hp ++ allOf W))) (hx.sub (by (repeat' (first | refine sub_append ?_ ?_ | refine sub_cons ?_ ?_ | exact sub_nil)); all_goals first | (intro p hp; simp only [List.mem_append, List.mem_cons, hp, true_or, or_true]) | simp only [List.mem_append, List.mem_cons, true_or, or_true]) (fun b => by simp only [keyc_append, keyc_cons, keyc_nil]; omega))))
      obtain ⟨A4, q4, rfl⟩ := hb4.val
      rw [HDL.out] at HPW ⊢
      obtain ⟨p, hp1, hp64, hneg, hpos⟩ := HP.out
      injection hp1 with hp1 hp2
      subst hp1 hp2
      have HNEG := Lib.hid hneg
      have HPOS := Lib.hid hpos
      clear hH4 hg4 HPU hb4 HG3 HP hneg hpos HFL
      go_wp2_with fail
      refine HPW.out.mono ?_
      rintro e w5 ⟨ve5, He5, Hs5, Hc5, rfl, he5, hs5, hch5, hH5, hg5⟩
      dsimp only at he5 hs5 hch5
      obtain ⟨rfl, rfl⟩ := isErr0 he5
      have hG5 := hG4.trans hg5
      have HS5 := Lib.hid hs5
      have HC5 := Lib.hid hch5
      have hH6 : Holds w5 (Hs5 ++ (Hc5 ++ (Hp ++ allOf W))) := by
        have h6 : Holds w5 (Hs5 ++ (Hc5 ++ ([] ++ (Hp ++ (H4 ++ allOf W))))) := hH5
        exact h6.sub (by (repeat' (first | refine sub_append ?_ ?_ | refine sub_cons ?_ ?_ | exact sub_nil)); all_goals first | (intro p hp; simp only [List.mem_append, List.mem_cons, hp, true_or, or_true]) | simp only [List.mem_append, List.mem_cons, true_or, or_true]) (fun b => by simp only [keyc_append, keyc_cons, keyc_nil]; omega)
      clear he5 hs5 hch5 hH5 hg5 hG4 HPW HDL
      go_upto_region 12 with fail
      go_cut [69] (fun v wx => v = .bool false ∧ ∃ (s7 : SM) (Hs7 : HL) (L' : List (Nat × Nat)), (KeepI (n + 1) pg p s7 c5 L' ∧ (pg.length = n → KeepI (n + 1) (pg ++ [p]) (-1) s7 c5 L')) ∧ StAt sb cb s7 Hs7 ∧ Holds wx (Hs7 ++ (Hc5 ++ (Hp ++ allOf W))) ∧ Grew W wx)
      case first =>
        by_cases ho : 0 ≤ o
        · obtain ⟨hd1, L', hd2⟩ := HPOS.out ho
          have HDR := Lib.hid (drop_any o HS5.out hH6)
          rw [hd1] at HDR
          generalize (dropS s5 o).1 = s6 at *
          clear hH6 HNEG HPOS hd1
          go_wp2_with fail
          refine HDR.out.mono ?_
          rintro e w6 ⟨ve6, He6, Hs6, rfl, he6, hs6, hH7, hg7⟩
          obtain ⟨rfl, rfl⟩ := isErr0 he6
          have hG7 := hG5.trans hg7
          clear HDR hg7 hG5 he6
          go_wp2_with fail
          go_meet
          exact ⟨rfl, s6, Hs6, L', hd2, hs6, hH7, hG7⟩
        · obtain ⟨rfl, L', hd2⟩ := HNEG.out (by omega)
          clear HNEG HPOS ho
          go_wp2_with fail
          go_meet
          exact ⟨rfl, s5, Hs5, L', hd2, HS5.out, hH6, hG5⟩
      case rest =>
        clear hH6 hG5 HNEG HPOS HS5
        obtain ⟨rfl, s7, Hs7, L', ⟨hI7, hI8⟩, hs7, hH7, hG7⟩ := hcut
        by_cases hns : n < S
        · have hnS : (n : Int) < S := by omega
          have hpn : pg.length = n := by have := HPL.out; omega
          have HI8 := Lib.hid (hI8 hpn)
          have HS7 := Lib.hid hs7
          have HROW := Lib.hid (show IsRow 3 1 (.slice A8 pg.length c8) pg.length ((pg.map fun q : Nat => (q : Int)).map (Value.int .i64)) Hp by have h := HPV.out; unfold IsNums at h; rw [List.length_map] at h; exact h)
          have hHp : Holds wc (Hp ++ (Hs7 ++ (Hc5 ++ allOf W))) := hH7.sub (by (repeat' (first | refine sub_append ?_ ?_ | refine sub_cons ?_ ?_ | exact sub_nil)); all_goals first | (intro p hp; simp only [List.mem_append, List.mem_cons, hp, true_or, or_true]) | simp only [List.mem_append, List.mem_cons, true_or, or_true]) (fun b => by simp only [keyc_append, keyc_cons, keyc_nil]; omega)
          have HPN := Lib.hid hpn
          clear hI7 hI8 hs7 hH7 hpn
          go_wp2_with (at_builtin; refine wpList_append_T tInts (by rfl) (.tmp 73) (.tmp 75) (by rfl) (by rfl) (by rfl) HROW.out (hHp.alloc' _) ReadsAt.one (by simp [Value.oneCell']) (by simp only [maxLen]; omega) (by omega) ?_; intro A' c' w' H' hrow hH9 hg9)
          go_roundw
          case rel =>
            refine ⟨n + 1, -1, pg ++ [p], L', s7, c5, H', Hs7, Hc5, by omega, by rw [List.length_append, HPN.out]; simp; omega, by go_num, rfl, ?_, HI8.out, HS7.out, HC5.out, hH9.sub (by (repeat' (first | refine sub_append ?_ ?_ | refine sub_cons ?_ ?_ | exact sub_nil)); all_goals first | (intro p hp; simp only [List.mem_append, List.mem_cons, hp, true_or, or_true]) | simp only [List.mem_append, List.mem_cons, true_or, or_true]) (fun b => by simp only [keyc_append, keyc_cons, keyc_nil]; omega), (hG7.alloc _).trans hg9⟩
            unfold IsNums
            rw [List.length_map, List.length_append, List.map_append, List.map_append]
            exact hrow
          case measure => simp [intOf]; omega
        · have hnS : ¬ (n : Int) < S := by omega
          have HI7 := Lib.hid hI7
          have HS7 := Lib.hid hs7
          clear hI7 hI8 hs7
          go_wp2_with fail
          go_roundw
          case rel => exact ⟨n + 1, p, pg, L', s7, c5, Hp, Hs7, Hc5, by omega, by have := HPL.out; omega, by go_num, rfl, by have := HPV.out; simpa using this, HI7.out, HS7.out, HC5.out, hH7, hG7⟩
          case measure => simp [intOf]; omega
    · obtain rfl : n = S + M := by omega
      have hnl : ¬ (((S + M : Nat) : Int) < (S : Int) + M) := by omega
      have hp12 : pg.length ≤ 12 := by omega
      have HROW := Lib.hid hpv
      obtain ⟨A8, c8, rfl⟩ := hpv.val
      rw [List.length_map] at HROW ⊢
      have hpl2 := hI.has
      have HHAS := Lib.hid hpl2
      have hst : KRd16 cb g cap mv W L Hp (.pointer (some ⟨sb, 0, none⟩)) (.int .i64 0) wr := ⟨0, sb, s, c, Hs, Hc, by omega, rfl, rfl, hI.law.has, hI.live_on, hI.law.msk, hI.law.mis, by have := hI.law.ops; omega, hs, hch, hH3, hG3⟩
      clear hI hs hch hH3 hG3 hpl hpv hpl2 hnm hlt
      go_wp2_with fail
      clear hnl hsm hsm2 hl1 hl2 hk1 hk2
      go_loopw [6, 13] (fun sv iv wr => KRd16 cb g cap mv W L Hp sv iv wr) (fun _ i _ => 2 - (intOf i).toNat)
      case atStart => exact hst
      case round =>
        clear hst
        obtain ⟨rd, sb2, s2, c2, Hs2, Hc2, hrd, rfl, rfl, hI2, hon2, hms2, hmis2, hops2, hs2, hch2, hH2, hG2⟩ := hrel
        by_cases hr2 : rd < 2
        · have hrdl : (rd : Int) < 2 := by omega
          have hwr : IntKind.i64.wrap ((rd : Int) + 1) = rd + 1 := wrap_i64_id (by omega) (by omega)
          have HS2 := Lib.hid hs2
          have HI2 := Lib.hid hI2
          have HON2 := Lib.hid hon2
          have HMS2 := Lib.hid hms2
          have hst2 : KGt16 cb g cap mv W c2 pg Hs2 Hp (.int .i64 0) wr := ⟨0, c2, Hc2, by omega, rfl, Reads.refl c2, hon2, by simp, hch2, hH2, hG2⟩
          have HMI2 := Lib.hid hmis2
          have HOP2 := Lib.hid hops2
          have hrd2 : rd ≤ 1 := by omega
          clear hI2 hon2 hms2 hs2 hch2 hH2 hG2 hmis2
          go_wp2_with fail
          go_loopw [14] (fun iv wr => KGt16 cb g cap mv W c2 pg Hs2 Hp iv wr) (fun i _ => pg.length - (intOf i).toNat)
          case atStart => exact hst2
          case round =>
            clear hst2
            obtain ⟨kk, c3, Hc3, hkk, rfl, hrd3, hon3, hops3, hch3, hH3, hG3⟩ := hrel
            by_cases hkl : kk < pg.length
            · have hkkl : (kk : Int) < pg.length := by omega
              have hkw : IntKind.i64.wrap ((kk : Int) + 1) = kk + 1 := wrap_i64_id (by omega) (by omega)
              have hkw2 : IntKind.i64.wrap (1 + (kk : Int)) = 1 + kk := wrap_i64_id (by omega) (by omega)
              have hkw3 : wrap64 (1 + (kk : Int)) = 1 + kk := by unfold wrap64; omega
              have hkw4 : IntKind.u64.wrap (kk : Int) = kk := by rw [IntKind.wrap_u64]; omega
              have hrdn := IsRow.reads HROW.out (Fr := Hs2 ++ (Hc3 ++ allOf W)) (hH3.sub (by (repeat' (first | refine sub_append ?_ ?_ | refine sub_cons ?_ ?_ | exact sub_nil)); all_goals first | (intro p hp; simp only [List.mem_append, List.mem_cons, hp, true_or, or_true]) | simp only [List.mem_append, List.mem_cons, true_or, or_true]) (fun b => by simp only [keyc_append, keyc_cons, keyc_nil]; omega))
              rw [List.length_map] at hrdn
              obtain ⟨h1x, A3, c8', hv3, h2x, hc33, hrd4⟩ := hrdn
              injection hv3 with hv31 hv32 hv33
              subst hv31; subst hv33
              clear hv32 h1x h2x
              obtain ⟨b8, o8, rfl, hcl⟩ := hrd4 (by omega)
              have ca := hcl kk (.int .i64 (pg[kk] : Nat)) (by simp [List.getElem?_eq_getElem hkl])
              obtain ⟨c4, hg1, hg2, hg3, hg4⟩ := (HI2.out.reads hrd3).getE hon3 (by rw [hrd3.ms]; exact HMS2.out) (HHAS.out kk hkl)
              have hge := get_any (((pg[kk] : Nat) : Int)) HS2.out hch3 hH3 (by omega)
              rw [hg1] at hge
              generalize ((pg[kk] : Nat) : Int) = pn at *
              have HGT := Lib.hid hge
              have HR4 := Lib.hid (hrd3.trans hg2)
              have HON4 := Lib.hid hg3
              have HO4 := Lib.hid (show c4.ops ≤ c2.ops + (kk + 1 : Nat) by omega)
              have HFL := Lib.hid (fun (w : World) (F : HL) (h : Holds w F) => fill_any (kk : Int) 128 w F h (by decide))
              have HDL := Lib.hid (fillL_len (kk : Int))
              generalize fillL (kk : Int) 128 = D at *
              have HG3 := Lib.hid hG3
              have HKL := Lib.hid hkl
              clear hkk hkl hops2 hrd hr2 hrdl
              clear hcl hrd4 hc33 hg1 hg2 hg3 hg4 hge hrd3 hon3 hops3 hch3 hH3 hG3
              go_wp2_with fail
              refine HGT.out.mono ?_
              rintro e w4 ⟨v4, Hv4, ve4, He4, Hc4, rfl, hb4, he4, hch4, hH4, hg4⟩
              dsimp only at hb4 he4 hch4
              obtain ⟨rfl, rfl⟩ := isErr0 he4
              rw [hdK_agg]
              have HC4 := Lib.hid hch4
              have HB4 := Lib.hid hb4
              obtain ⟨A9, q9, rfl⟩ := hb4.val
              rw [HDL.out] at HB4 ⊢
              have hG4 := HG3.out.trans hg4
              clear he4 hb4 hch4 hg4 HG3 HGT ca
              go_upto_region 25 with fail
              have hH5 := hH4.alloc (.cells #[.int .i64 1, .int .u64 kk, .int .i64 (1 + kk), .int .i64 0] 37)
              have hG5 := hG4.alloc (.cells #[.int .i64 1, .int .u64 kk, .int .i64 (1 + kk), .int .i64 0] 37)
              generalize w4.alloc (.cells #[.int .i64 1, .int .u64 kk, .int .i64 (1 + kk), .int .i64 0] 37) = w5 at *
              generalize w4.heap.size = gi at *
              have b0 := hH5.hcell 0
              have b1 := hH5.hcell 1
              have b2 := hH5.hcell 2
              have b3 := hH5.hcell 3
              simp only [List.getElem?_toArray, List.getElem?_cons_zero, List.getElem?_cons_succ] at b0 b1 b2 b3
              have HF5 := Lib.hid (HFL.out w5 _ hH5)
              clear hH4 hG4 hH5
              go_wp2_with fail
              refine HF5.out.mono ?_
              rintro e w6 ⟨v6, H6, rfl, hb6, hH6, hg6⟩
              have hG6 := hG5.trans hg6
              have HSM := Lib.hid (same_any (.slice A9 128 q9) v6 D D w6 (HB4.out.at_ (Fr := []) (hH6.sub (by (repeat' (first | refine sub_append ?_ ?_ | refine sub_cons ?_ ?_ | exact sub_nil)); all_goals first | (intro p hp; simp only [List.mem_append, List.mem_cons, hp, true_or, or_true]) | simp only [List.mem_append, List.mem_cons, true_or, or_true]) (fun b => by simp only [keyc_append, keyc_cons, keyc_nil]; omega))) (hb6.at_ hH6))
              rw [decide_eq_true (rfl : D = D)] at HSM
              obtain ⟨A6, q6, rfl⟩ := hb6.val
              rw [HDL.out] at HSM ⊢
              have hH7 : Holds w6 (Hs2 ++ (Hc4 ++ (Hp ++ allOf W))) := hH6.sub (by (repeat' (first | refine sub_append ?_ ?_ | refine sub_cons ?_ ?_ | exact sub_nil)); all_goals first | (intro p hp; simp only [List.mem_append, List.mem_cons, hp, true_or, or_true]) | simp only [List.mem_append, List.mem_cons, true_or, or_true]) (fun b => by simp only [keyc_append, keyc_cons, keyc_nil]; omega)
              clear hb6 hH6 hg6 hG5 HF5 HFL b0 b1 b2 b3
              go_wp2_with fail
              refine HSM.out.mono ?_
              rintro e w7 ⟨rfl, q, rfl⟩
              have hH8 := hH7.drewN q
              have hG8 := hG6.trans (Grew.dr ⟨q, rfl⟩)
              clear hH7 hG6 HSM HB4
              go_wp2_with fail
              go_roundw
              case rel => exact ⟨kk + 1, c4, Hc4, by have := HKL.out; omega, by go_num, HR4.out, HON4.out, HO4.out, HC4.out, hH8, hG8⟩
              case measure => simp [intOf]; omega
            · have hkx : ¬ (kk : Int) < pg.length := by omega
              have hah : ahead c3 < 25 := by have := ahead_le c3; have := hch3.cok.2.2.2.2.2.2.1; omega
              obtain ⟨q1, t, q2, q3, q4⟩ := (HI2.out.reads hrd3).lost hah
              obtain ⟨q5, q6⟩ := lostN_sim 25 c3 hch3.cok hch3.cok.2.2.2.2.2.1
              have hc3 := (HI2.out.reads hrd3).cont
              have hlo := lost_any hch3 (hH3.sub (by (repeat' (first | refine sub_append ?_ ?_ | refine sub_cons ?_ ?_ | exact sub_nil)); all_goals first | (intro p hp; simp only [List.mem_append, List.mem_cons, hp, true_or, or_true]) | simp only [List.mem_append, List.mem_cons, true_or, or_true]) (fun b => by simp only [keyc_append, keyc_cons, keyc_nil]; omega) : Holds wr (Hc3 ++ (Hp ++ allOf W))) (by rw [hc3.B, hc3.P, hc3.Z]; exact hc3.pl) (by omega)
              have e : lostN 25 c3 = (some t, (lostN 25 c3).2) := by rw [← q2]
              have hop4 := q5.2.2.2.2.2
              generalize (lostN 25 c3).2 = c4 at *
              rw [e] at hlo
              have HLO := Lib.hid hlo
              have HI4 := Lib.hid q3
              have HON4 := Lib.hid q4.on
              have HMS4 := Lib.hid (show ∀ m ∈ c4.ms, m.kind ≠ 2 by rw [q1.ms, hrd3.ms]; exact HMS2.out)
              have HMI4 := Lib.hid (show c4.misuse = 0 by rw [q1.mis, hrd3.mis]; exact HMI2.out)
              have HOP4 := Lib.hid (show c4.ops ≤ 1000 + 10000 * ((rd + 1 : Nat) : Int) by omega)
              clear q1 q2 q3 q4 q5 q6 hc3 hlo e hop4 hah hrd3 hon3 hops3 hch3 hH3 hkk hkl hops2
              go_wp2_with fail
              refine HLO.out.mono ?_
              rintro e w4 ⟨nn, sb4, Hs4, Hc4, rfl, hs4, hch4, hH4, hg4⟩
              have HS4 := Lib.hid hs4
              have HC4 := Lib.hid hch4
              have hG4 := hG3.trans hg4
              clear HLO hs4 hch4 hg4 hG3
              go_wp2_with fail
              go_roundw
              case rel => exact ⟨rd + 1, sb4, t, c4, Hs4, Hc4, by omega, rfl, by go_num, HI4.out, HON4.out, HMS4.out, HMI4.out, HOP4.out, HS4.out, HC4.out, hH4, hG4⟩
              case measure => simp [intOf]; omega
        · obtain rfl : rd = 2 := by omega
          have HMI := Lib.hid (nmisuse_any hch2 hH2.swap)
          rw [hmis2] at HMI
          have HAW := Lib.hid (awake16_any wr (allOf W) hH2.right.right.right)
          clear hI2 hon2 hms2 hmis2 hops2 hs2 hch2 hH2
          go_wp2_with fail
          refine HMI.out.mono ?_
          rintro e wx ⟨rfl, rfl⟩
          go_wp2_with fail
          refine HAW.out.mono ?_
          rintro e wy ⟨rfl, hHy, hgy⟩
          have hGy := hG2.trans hgy
          clear HMI HAW hgy hG2
          go_wp2_with fail
          go_ret
          exact ⟨rfl, hHy, hGy⟩
end Go.Proofs.YtoelopghilbfeaaGreat
