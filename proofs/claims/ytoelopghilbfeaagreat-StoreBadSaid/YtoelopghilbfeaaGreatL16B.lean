/-
  Chapter 16: StoreBad.
-/
import Derived.Test.YtoelopghilbfeaaGreatSpY
import Derived.Test.YtoelopghilbfeaaGreatMi2
import Derived.Test.YtoelopghilbfeaaGreatL16
import Derived.Test.YtoelopghilbfeaaGreatOpen
namespace Go.Proofs.YtoelopghilbfeaaGreat
open Go.RowKit
set_option linter.unusedSimpArgs false
set_option linter.unusedVariables false

theorem prod_glue {α β : Type} {x : α × β} {b : β} (h : x.2 = b) : x = (x.1, b) := by cases x; cases h; rfl
theorem ints_all {v : Value} {zs : List Int} {W : World} (h : IntsAt W v zs) : IsInts v zs (allOf W) := fun wx hx => h.1.keep (w' := wx) (fun p u hp => all_cell (H := []) (by simpa using hx) hp)
theorem hdK_agg' (κ : Int) (n : Nat) : (hdK κ n).agg = .agg #[.int .i64 κ, .int .u64 n, .int .i64 (1 + n), .int .i64 0] := rfl
/-- of each block that has a page one is needed -/
def Used16 (s : SM) (c : CM) : Prop := ∀ j : Nat, j < 16 → 0 < c.nextOf j → ¬ noneed s j
/-- pages put so far -/
def BpTo (m sb cb g cap : Nat) (mv : Value) (W : World) (pv iv : Value) (wr : World) : Prop :=
  ∃ (n : Nat) (pg : List Nat) (L : List (Nat × Nat)) (s : SM) (c : CM) (Hp Hs Hc : HL), n ≤ m ∧ pg.length = n ∧ iv = .int .i64 n ∧ IsNums pv (pg.map fun q : Nat => (q : Int)) Hp ∧ LawI 64 1 (fun _ => false) n L s c ∧ Used16 s c ∧ (∀ j (h : j < pg.length), (pg[j], j) ∈ L) ∧
    StAt sb cb s Hs ∧ ChipAt cb g cap mv c Hc ∧ Holds wr (Hs ++ (Hc ++ (Hp ++ allOf W))) ∧ Grew W wr
/-- pages got so far -/
def BgTo (cb g cap : Nat) (mv : Value) (W : World) (c : CM) (pg : List Nat) (Hs Hp : HL) (iv : Value) (wr : World) : Prop :=
  ∃ (k : Nat) (c' : CM) (Hc : HL), k ≤ pg.length ∧ iv = .int .i64 k ∧ Reads c c' ∧ c'.on = true ∧ c'.ops ≤ c.ops + k ∧ ChipAt cb g cap mv c' Hc ∧ Holds wr (Hs ++ (Hc ++ (Hp ++ allOf W))) ∧ Grew W wr
/-- mishaps told so far -/
def BmTo (n : Nat) (W : World) (av mv iv : Value) (wr : World) : Prop :=
  ∃ (k : Nat) (at_ : Int) (ms : List Mi) (Hm : HL), k ≤ n ∧ iv = .int .i64 k ∧ av = .int .i64 at_ ∧ IsMs mv ms Hm ∧ ms.length = k ∧ 64 ≤ at_ ∧ at_ ≤ 64 + 20 * k ∧ MsMay ms ∧ (∀ m ∈ ms, 64 < m.at_ ∧ m.at_ ≤ at_ ∧ m.kind = 1) ∧ Holds wr (Hm ++ allOf W) ∧ Grew W wr
set_option maxRecDepth 100000 in
set_option maxHeartbeats 4000000 in
theorem bad16_walk (gv : Value) (gaps : List Int) (many bytes : Int) (W : World) (hgv : IntsAt W gv gaps) : Calls Tryz.prog 4 #[gv, .int .i64 many, .int .i64 bytes] W (RetFr (.bool true) W (allOf W)) := by
  have hH := holds_all W
  have k1 := err_eq
  have k2 := nil_eq
  have k3 := err_ne
  have k4 := nil_ne
  have HGV := Lib.hid (ints_all hgv)
  obtain ⟨_, A, c, rfl, _, _, _⟩ := hgv.1
  have hg0 := Grew.refl W
  clear hgv
  go_enter Tryz.func4, Tryz.ntmps4
  by_cases h5 : 5 < gaps.length
  · have h5i : (5 : Int) < (gaps.length : Int) := by omega
    go_wp2_with fail
    refine (awake16_any _ _ hH).mono ?_
    rintro e wa ⟨rfl, hHa, hga⟩
    go_wp2_with fail
    go_ret
    exact ⟨rfl, hHa, hga⟩
  · have h5i : ¬ (5 : Int) < (gaps.length : Int) := by omega
    have HLO := Lib.hid (fun w => low_any many 41 w (by decide) (by decide))
    have HLB := Lib.hid (fun w => low_any bytes 200 w (by decide) (by decide))
    obtain ⟨hm1, hm2⟩ := low_bd many 41 (by decide) (by decide)
    obtain ⟨hb1, hb2⟩ := low_bd bytes 200 (by decide) (by decide)
    generalize lowI many 41 = mz at *
    generalize lowI bytes 200 = bz at *
    obtain ⟨m, rfl⟩ : ∃ m : Nat, mz = (m : Int) := ⟨mz.toNat, by omega⟩
    go_wp2_with fail
    go_loopw [7, 8, 9] (fun av mv iv wr => BmTo gaps.length W av mv iv wr) (fun _ _ i _ => gaps.length - (intOf i).toNat)
    case atStart => exact ⟨0, 64, [], [], by omega, rfl, rfl, IsRow.nil _ _, rfl, by omega, by omega, ⟨by simp, by simp, List.Pairwise.nil⟩, by simp, hH, hg0⟩
    case round =>
      clear hH hg0
      obtain ⟨k, at_, ms, Hm, hk, rfl, rfl, hms, hml, ha1, ha2, hmay, hmk, hHr, hgr⟩ := hrel
      by_cases hlt : k < gaps.length
      · have hltI : (k : Int) < gaps.length := by omega
        obtain ⟨h1x, A2, c2, hv2, h2x, h3x, hrd⟩ := HGV.out wr hHr.right
        injection hv2 with hv21 hv22 hv23
        subst hv21; subst hv23
        clear hv22 h1x h2x h3x
        obtain ⟨b, o, rfl, hcl⟩ := hrd (by omega)
        have ca := hcl k (.int .i64 gaps[k]) (by rw [List.getElem?_map, List.getElem?_eq_getElem hlt]; rfl)
        obtain ⟨hz1, hz2⟩ := low_bd gaps[k] 20 (by decide) (by decide)
        have HLG := Lib.hid (fun w => low_any gaps[k] 20 w (by decide) (by decide))
        generalize lowI gaps[k] 20 = gz at *
        generalize gaps[k] = gx at *
        have hw1 : IntKind.i64.wrap (at_ + 1) = at_ + 1 := wrap_i64_id (by omega) (by omega)
        have hw2 : IntKind.i64.wrap (at_ + 1 + gz) = at_ + 1 + gz := wrap_i64_id (by omega) (by omega)
        have hw3 : wrap64 (at_ + 1) = at_ + 1 := by unfold wrap64; omega
        have hw4 : wrap64 (at_ + 1 + gz) = at_ + 1 + gz := by unfold wrap64; omega
        have hw5 : IntKind.i64.wrap ((k : Int) + 1) = k + 1 := wrap_i64_id (by omega) (by omega)
        have HNEW := Lib.hid (show MsMay (ms ++ [⟨at_ + 1 + gz, 1, bz, 0⟩]) by
          obtain ⟨q1, q2, q3⟩ := hmay
          refine ⟨by rw [List.length_append]; simp; omega, ?_, ?_⟩
          · intro x hx
            rcases List.mem_append.1 hx with h | h
            · exact q2 x h
            · rw [List.mem_singleton.1 h]; exact ⟨by show 1 ≤ at_ + 1 + gz; omega, by show at_ + 1 + gz ≤ 1073741824; omega, Or.inl rfl, hb1, by show bz ≤ 65536; omega⟩
          · rw [List.pairwise_append]
            refine ⟨q3, List.pairwise_singleton _ _, ?_⟩
            intro x hx y hy
            rw [List.mem_singleton.1 hy]
            have := (hmk x hx).2.1
            show x.at_ < at_ + 1 + gz
            omega)
        have HKIND := Lib.hid (show ∀ x ∈ ms ++ [(⟨at_ + 1 + gz, 1, bz, 0⟩ : Mi)], 64 < x.at_ ∧ x.at_ ≤ at_ + 1 + gz ∧ x.kind = 1 by
          intro x hx
          rcases List.mem_append.1 hx with h | h
          · obtain ⟨q1, q2, q3⟩ := hmk x h; exact ⟨q1, by omega, q3⟩
          · rw [List.mem_singleton.1 h]; exact ⟨by show 64 < at_ + 1 + gz; omega, Int.le_refl _, rfl⟩)
        have HROW := Lib.hid (show IsRow 48 4 _ ms.length (ms.map Mi.cells).flatten Hm from hms)
        have HML := Lib.hid hml
        obtain ⟨Am, cm, rfl⟩ := IsRow.val hms
        have hml5 : ms.length ≤ 5 := by omega
        clear hms hmay hmk hcl hrd hml hlt
        go_wp2_with fail
        refine (HLG.out _).mono ?_
        rintro e w1 ⟨rfl, rfl⟩
        go_wp2_with fail
        refine (HLB.out _).mono ?_
        rintro e w1 ⟨rfl, rfl⟩
        go_wp2_with (at_builtin; refine wpList_append_T tMis (by rfl) (.tmp 41) (.tmp 46) (by rfl) (by rfl) (by rfl) HROW.out (hHr.alloc' _) (ReadsAt.many (w := wr) (n := 1) (size := 4) (cs := #[.int .i64 (at_ + 1 + gz), .int .i64 1, .int .i64 bz, .int .u8 0]) (by rfl) (by simp [maxLen])) (by simp [Value.oneCell']) (by simp only [maxLen]; omega) (by omega) ?_; intro A' c' w' H' hrow hH9 hg9)
        go_roundw
        case rel =>
          refine ⟨k + 1, at_ + 1 + gz, ms ++ [⟨at_ + 1 + gz, 1, bz, 0⟩], H', by omega, by go_num, rfl, ?_, by rw [List.length_append, HML.out]; rfl, by omega, by omega, HNEW.out, HKIND.out, hH9, (hgr.alloc _).trans hg9⟩
          unfold IsMs
          rw [List.length_append, List.map_append, List.flatten_append]
          exact hrow
        case measure => simp [intOf]; omega
      · obtain rfl : k = gaps.length := by omega
        have hnl : ¬ (gaps.length : Int) < gaps.length := by omega
        have HMS := Lib.hid hms
        have HMAY := Lib.hid hmay
        have HMK := Lib.hid hmk
        have hml24 : ms.length ≤ 24 := by omega
        obtain ⟨Am, cm, rfl⟩ := IsRow.val hms
        have HGE := Lib.hid (l16geo_any wr _ hHr)
        clear hms hmay hmk hml ha1 ha2 hlt hk hHr
        go_wp2_with fail
        refine HGE.out.mono ?_
        rintro e w1 ⟨rfl, hH1, hg1⟩
        have HN := Lib.hid (nnew_good 16 4 128 (.slice none 0 0) (.slice Am ms.length cm) [] ms w1 _ hH1 (ints_nil _) (fun wx hx => IsRow.reads HMS.out hx)
          (fun wx F hx => may_yes _ ms wx _ (fun wy hy => IsRow.reads HMS.out hy.right) hx HMAY.out) (by omega) (by omega) (by omega) (by omega) (by omega) (by omega) hml24 HMAY.out.2.1 (by simp))
        have hG1 := hgr.trans hg1
        clear HGE hgr hg1 hH1
        go_wp2_with fail
        refine HN.out.mono ?_
        rintro e w2 ⟨dv, H0, rfl, ⟨cb, g, cap, mv, rfl, hc0⟩, hH2, hg2⟩
        have hG2 := hG1.trans hg2
        obtain ⟨hn1, hI0⟩ := lawI_new 1 [] ms (N := 64) (fun x hx => (HMK.out x hx).1) (fun x hx => by rw [(HMK.out x hx).2.2]; decide)
        have HNW := Lib.hid (new_any hc0 hH2 (by rw [hI0.has.cont.B, hI0.has.cont.P, hI0.has.cont.Z]; exact hI0.has.cont.pl) rfl (by show (0 : Int) ≤ 999999998000; omega))
        have hn2 : newS (CM.new 16 4 128 [] ms) = ((newS (CM.new 16 4 128 [] ms)).1, CM.new 16 4 128 [] ms, 0) := prod_glue hn1
        have hnx0 : ∀ (j : Nat) (x : CB), (CM.new 16 4 128 [] ms).blocks[j]? = some x → x.next = 0 := fun j x hx => by obtain ⟨_, rfl⟩ := new_at hx; rfl
        generalize (newS (CM.new 16 4 128 [] ms)).1 = s0 at *
        generalize CM.new 16 4 128 [] ms = c0 at *
        rw [hn2] at HNW
        have HU0 := Lib.hid (show ∀ (j : Nat) (x : CB), c0.blocks[j]? = some x → x.next = 0 from hnx0)
        have HI0 := Lib.hid (show LawI 64 1 (fun _ => false) 0 [] s0 c0 from hI0)
        clear hc0 hH2 hg2 HN hn1 hn2 hI0 hG1 hnx0
        go_wp2_with fail
        refine HNW.out.mono ?_
        rintro e w3 (⟨h0, sb, Hs, Hc, rfl, hs, hch, hH3, hg3⟩ | ⟨h0, _⟩)
        rotate_left
        · exact absurd rfl h0
        dsimp only at hs hch
        have hG3 := hG2.trans hg3
        have hst : BpTo m sb cb g cap mv W (.slice none 0 0) (.int .i64 0) w3 := ⟨0, [], [], s0, c0, [], Hs, Hc, by omega, rfl, rfl, IsRow.nil _ _, HI0.out, fun j hj hpos => by
          intro hn
          obtain ⟨x, hx⟩ := HI0.out.has.cont.bget (k := j) (by rw [HI0.out.has.geo.1]; exact hj)
          rw [next_at hx] at hpos
          have hP := HI0.out.has.geo.2.1
          have hsh := HI0.out.has.cont.shape j x hx
          exact absurd (HU0.out j x hx) (by omega), fun j h => absurd h (by simp), hs, hch, hH3.sub (by (repeat' (first | refine sub_append ?_ ?_ | refine sub_cons ?_ ?_ | exact sub_nil)); all_goals first | (intro p hp; simp only [List.mem_append, List.mem_cons, hp, true_or, or_true]) | simp only [List.mem_append, List.mem_cons, true_or, or_true]) (fun b => by simp only [keyc_append, keyc_cons, keyc_nil]; omega), hG3⟩
        clear h0 hs hch hH3 hg3 hG2 HNW hG3 HMS HMAY HMK hml24 HU0
        go_wp2_with fail
        go_loopw [13, 14] (fun pv iv wr => BpTo m sb cb g cap mv W pv iv wr) (fun _ i _ => m - (intOf i).toNat)
        case atStart => exact hst
        case round =>
          clear hst
          obtain ⟨n, pg, L, s, c, Hp, Hs, Hc, hnm, hpl, rfl, hpv, hI, hus, hhas, hs, hch, hH3, hG3⟩ := hrel
          by_cases hlt : n < m
          · have hnlt : (n : Int) < m := by omega
            have hw2 : IntKind.i64.wrap (1 + (n : Int)) = 1 + n := wrap_i64_id (by omega) (by omega)
            have hw4 : wrap64 (1 + (n : Int)) = 1 + n := by unfold wrap64; omega
            have hw5 : IntKind.i64.wrap ((n : Int) + 1) = n + 1 := wrap_i64_id (by omega) (by omega)
            have hw6 : IntKind.u64.wrap (n : Int) = n := by rw [IntKind.wrap_u64]; omega
            have HFL := Lib.hid (fill_any (n : Int) 128 wr _ hH3 (by decide))
            have hDl := fillL_len (n : Int)
            have hgeo := hI.has.geo
            have HP := Lib.hid (hI.put (by omega) (i := n) (by omega) (Or.inl rfl))
            have HPU := Lib.hid (fun (w : World) (F : HL) (dv : Value) (h : Holds w (Hs ++ (Hc ++ F))) (hf : FrBytes (Hs ++ (Hc ++ F)) dv (fillL n 128)) => put_any (hdK 1 n) (fillL n 128) dv hs hch h hI.has.cont.yok (by omega) (by have := hI.ops; omega) hI.has.cont.B hI.has.cont.Z hf (hdK_may (Or.inl rfl) (by omega)).2)
            rw [hdK_agg'] at HPU
            have HUS := Lib.hid hus
            have HHAS := Lib.hid hhas
            have HMIS := Lib.hid hI.mis
            have HOPS := Lib.hid hI.ops
            generalize fillL (n : Int) 128 = D at *
            have HDL := Lib.hid hDl
            have HROW := Lib.hid (show IsRow 3 1 _ (pg.map fun q : Nat => (q : Int)).length ((pg.map fun q : Nat => (q : Int)).map (Value.int .i64)) Hp from hpv)
            have HG3 := Lib.hid hG3
            have HPL := Lib.hid hpl
            obtain ⟨r, hr⟩ : ∃ r, r = putA s c (hdK 1 n) D := ⟨_, rfl⟩
            rw [← hr] at HP HPU
            obtain ⟨s5, c5, p5, code5⟩ := r
            dsimp only at HPU HP
            clear hr
            obtain ⟨A8, c8, rfl⟩ := hpv.val
            rw [List.length_map] at HROW ⊢
            clear hDl hI hs hch hH3 hG3 hpv hgeo hus hhas hpl
            go_wp2_with fail
            refine (HLO.out _).mono ?_
            rintro e wx ⟨rfl, rfl⟩
            go_wp2_with fail
            refine HFL.out.mono ?_
            rintro e w4 ⟨v4, H4, rfl, hb4, hH4, hg4⟩
            have hG4 := HG3.out.trans hg4
            have HPW := Lib.hid (HPU.out w4 (Hp ++ (H4 ++ allOf W)) v4 (hH4.sub (by (repeat' (first | refine sub_append ?_ ?_ | refine sub_cons ?_ ?_ | exact sub_nil)); all_goals first | (intro p hp; simp only [List.mem_append, List.mem_cons, hp, true_or, or_true]) | simp only [List.mem_append, List.mem_cons, true_or, or_true]) (fun b => by simp only [keyc_append, keyc_cons, keyc_nil]; omega)) (fun wx hx => hb4.at_ (Fr := Hs ++ (Hc ++ (Hp ++ allOf W))) (hx.sub (by (repeat' (first | refine sub_append ?_ ?_ | refine sub_cons ?_ ?_ | exact sub_nil)); all_goals first | (intro p hp; simp only [List.mem_append, List.mem_cons, hp, true_or, or_true]) | simp only [List.mem_append, List.mem_cons, true_or, or_true]) (fun b => by simp only [keyc_append, keyc_cons, keyc_nil]; omega))))
            obtain ⟨A4, q4, rfl⟩ := hb4.val
            rw [HDL.out] at HPW ⊢
            clear hH4 hg4 HPU hb4 HG3 HFL
            go_wp2_with fail
            refine HPW.out.mono ?_
            rintro e w5 ⟨ve5, He5, Hs5, Hc5, rfl, he5, hs5, hch5, hH5, hg5⟩
            dsimp only at he5 hs5 hch5
            have hG5 := hG4.trans hg5
            rcases HP.out with ⟨hfull, _⟩ | ⟨p, hp1, hp64, hp3, hp4, hp5, hp6, hp7, hp8⟩
            · simp only [Prod.mk.injEq] at hfull
              obtain ⟨f1, f2, f3, f4⟩ := hfull
              subst f1 f2 f3 f4
              obtain ⟨b5, x5, rfl, _⟩ := isErrP8 he5 (show (7 : Int) ≠ 0 by decide)
              have HNM := Lib.hid (num_any _ 7 He5 _ w5 he5 (hH5.sub (by (repeat' (first | refine sub_append ?_ ?_ | refine sub_cons ?_ ?_ | exact sub_nil)); all_goals first | (intro p hp; simp only [List.mem_append, List.mem_cons, hp, true_or, or_true]) | simp only [List.mem_append, List.mem_cons, true_or, or_true]) (fun b => by simp only [keyc_append, keyc_cons, keyc_nil]; omega) : Holds w5 (He5 ++ (Hs5 ++ (Hc5 ++ allOf W)))) (by omega))
              have HMI := Lib.hid (nmisuse_any hch5 (hH5.sub (by (repeat' (first | refine sub_append ?_ ?_ | refine sub_cons ?_ ?_ | exact sub_nil)); all_goals first | (intro p hp; simp only [List.mem_append, List.mem_cons, hp, true_or, or_true]) | simp only [List.mem_append, List.mem_cons, true_or, or_true]) (fun b => by simp only [keyc_append, keyc_cons, keyc_nil]; omega) : Holds w5 (Hc5 ++ allOf W)))
              rw [HMIS.out] at HMI
              have HAW := Lib.hid (awake16_any w5 (allOf W) (hH5.sub (by (repeat' (first | refine sub_append ?_ ?_ | refine sub_cons ?_ ?_ | exact sub_nil)); all_goals first | (intro p hp; simp only [List.mem_append, List.mem_cons, hp, true_or, or_true]) | simp only [List.mem_append, List.mem_cons, true_or, or_true]) (fun b => by simp only [keyc_append, keyc_cons, keyc_nil]; omega)))
              clear he5 hs5 hch5 hH5 hg5 hG4 HPW HDL HP
              go_wp2_with fail
              refine HNM.out.mono ?_
              rintro e wx ⟨rfl, rfl⟩
              go_wp2_with fail
              refine HMI.out.mono ?_
              rintro e wx ⟨rfl, rfl⟩
              go_wp2_with fail
              refine HAW.out.mono ?_
              rintro e wy ⟨rfl, hHy, hgy⟩
              have hGy := hG5.trans hgy
              clear HNM HMI HAW hgy hG5
              go_wp2_with fail
              go_ret
              exact ⟨rfl, hHy, hGy⟩
            · simp only [Prod.mk.injEq] at hp1
              obtain ⟨f1, f2⟩ := hp1
              subst f1 f2
              obtain ⟨rfl, rfl⟩ := isErr0 he5
              have hq : (p : Int).tdiv 4 = ((p / 4 : Nat) : Int) := by rw [Int.tdiv_eq_ediv_of_nonneg (by omega)]; omega
              have hqw : IntKind.i64.wrap ((p / 4 : Nat) : Int) = ((p / 4 : Nat) : Int) := wrap_i64_id (by omega) (by omega)
              have HNM := Lib.hid (nmarked_any ((p / 4 : Nat) : Int) hch5 (hH5.sub (by (repeat' (first | refine sub_append ?_ ?_ | refine sub_cons ?_ ?_ | exact sub_nil)); all_goals first | (intro p hp; simp only [List.mem_append, List.mem_cons, hp, true_or, or_true]) | simp only [List.mem_append, List.mem_cons, true_or, or_true]) (fun b => by simp only [keyc_append, keyc_cons, keyc_nil]; omega) : Holds w5 (Hc5 ++ (Hs5 ++ (Hp ++ allOf W)))))
              rw [hp5.markOf (by omega)] at HNM
              obtain ⟨hu1, hu2⟩ := hp8 HUS.out
              have HI6 := Lib.hid (show LawI 64 1 (fun _ => false) ((n + 1 : Nat) : Int) ((p, n) :: L) s5 c5 from { hp5 with ops := by have := HOPS.out; omega })
              have HU6 := Lib.hid (show Used16 s5 c5 from hu2)
              have HS5 := Lib.hid hs5
              have HC5 := Lib.hid hch5
              have hH6 : Holds w5 (Hp ++ (Hs5 ++ (Hc5 ++ allOf W))) := hH5.sub (by (repeat' (first | refine sub_append ?_ ?_ | refine sub_cons ?_ ?_ | exact sub_nil)); all_goals first | (intro p hp; simp only [List.mem_append, List.mem_cons, hp, true_or, or_true]) | simp only [List.mem_append, List.mem_cons, true_or, or_true]) (fun b => by simp only [keyc_append, keyc_cons, keyc_nil]; omega)
              have hp12 : pg.length ≤ 40 := by have := HPL.out; omega
              clear he5 hs5 hch5 hH5 hg5 hG4 HPW HDL HP hp3 hp4 hp5 hp6 hp7 hp8 hu1 hu2 HUS HMIS HOPS
              go_wp2_with fail
              refine HNM.out.mono ?_
              rintro e wx ⟨rfl, rfl⟩
              clear hq hqw hp64
              go_wp2_with (at_builtin; refine wpList_append_T tInts (by rfl) (.tmp 101) (.tmp 103) (by rfl) (by rfl) (by rfl) HROW.out (hH6.alloc' _) ReadsAt.one (by simp [Value.oneCell']) (by simp only [maxLen]; omega) (by omega) ?_; intro A' c' w' H' hrow hH9 hg9)
              go_roundw
              case rel =>
                refine ⟨n + 1, pg ++ [p], (p, n) :: L, s5, c5, H', Hs5, Hc5, by omega, by rw [List.length_append, HPL.out]; rfl, by go_num, ?_, HI6.out, HU6.out, ?_, HS5.out, HC5.out, hH9.sub (by (repeat' (first | refine sub_append ?_ ?_ | refine sub_cons ?_ ?_ | exact sub_nil)); all_goals first | (intro p hp; simp only [List.mem_append, List.mem_cons, hp, true_or, or_true]) | simp only [List.mem_append, List.mem_cons, true_or, or_true]) (fun b => by simp only [keyc_append, keyc_cons, keyc_nil]; omega), (hG5.alloc _).trans hg9⟩
                · unfold IsNums
                  rw [List.length_map, List.length_append, List.map_append, List.map_append]
                  exact hrow
                · intro j hj
                  rw [List.length_append] at hj
                  by_cases e : j < pg.length
                  · rw [List.getElem_append_left e]; exact List.mem_cons_of_mem _ (HHAS.out j e)
                  · have : j = pg.length := by simp at hj; omega
                    subst this
                    rw [List.getElem_append_right (Nat.le_refl _)]
                    simp only [Nat.sub_self, List.getElem_cons_zero]
                    rw [HPL.out]
                    exact List.mem_cons_self
              case measure => simp [intOf]; omega
          · obtain rfl : n = m := by omega
            have hnl : ¬ (n : Int) < n := by omega
            have hpv0 : IsRow 3 1 _ (pg.map fun q : Nat => (q : Int)).length ((pg.map fun q : Nat => (q : Int)).map (Value.int .i64)) Hp := hpv
            have HROW := Lib.hid hpv0
            obtain ⟨A8, c8, rfl⟩ := hpv.val
            rw [List.length_map] at HROW ⊢
            have HI := Lib.hid hI
            have HHAS := Lib.hid hhas
            have HS := Lib.hid hs
            have hp40 : pg.length ≤ 40 := by omega
            have hop0 : 0 ≤ c.ops ∧ c.ops ≤ 40 := by have := hI.ops; omega
            have hst2 : BgTo cb g cap mv W c pg Hs Hp (.int .i64 0) wr := ⟨0, c, Hc, by omega, rfl, Reads.refl c, hI.live.on, by simp, hch, hH3, hG3⟩
            clear hI hus hhas hs hch hH3 hG3 hpl hpv hpv0 hnm hlt
            go_wp2_with fail
            refine (HLO.out _).mono ?_
            rintro e wx ⟨rfl, rfl⟩
            go_wp2_with fail
            clear hnl hm1 hm2 hb1 hb2 h5i
            go_loopw [17] (fun iv wr => BgTo cb g cap mv W c pg Hs Hp iv wr) (fun i _ => pg.length - (intOf i).toNat)
            case atStart => exact hst2
            case round =>
              clear hst2
              obtain ⟨kk, c3, Hc3, hkk, rfl, hrd3, hon3, hops3, hch3, hH3, hG3⟩ := hrel
              by_cases hkl : kk < pg.length
              · have hkkl : (kk : Int) < pg.length := by omega
                have hkw : IntKind.i64.wrap ((kk : Int) + 1) = kk + 1 := wrap_i64_id (by omega) (by omega)
                have hrdn := IsRow.reads HROW.out (Fr := Hs ++ (Hc3 ++ allOf W)) (hH3.sub (by (repeat' (first | refine sub_append ?_ ?_ | refine sub_cons ?_ ?_ | exact sub_nil)); all_goals first | (intro p hp; simp only [List.mem_append, List.mem_cons, hp, true_or, or_true]) | simp only [List.mem_append, List.mem_cons, true_or, or_true]) (fun b => by simp only [keyc_append, keyc_cons, keyc_nil]; omega))
                obtain ⟨h1x, A3, c8', hv3, h2x, hc33, hrd4⟩ := hrdn
                injection hv3 with hv31 hv32 hv33
                subst hv31; subst hv33
                clear hv32 h1x h2x
                obtain ⟨b8, o8, rfl, hcl⟩ := hrd4 (by omega)
                have ca := hcl kk (.int .i64 (pg[kk] : Nat)) (by simp [List.getElem?_eq_getElem hkl])
                obtain ⟨c4, hg1, hg2, hg3, hg4⟩ := (HI.out.has.reads hrd3).getE hon3 (by rw [hrd3.ms]; exact HI.out.msk) (HHAS.out kk hkl)
                have hge := get_any (((pg[kk] : Nat) : Int)) HS.out hch3 hH3 (by omega)
                rw [hg1] at hge
                generalize ((pg[kk] : Nat) : Int) = pn at *
                have HGT := Lib.hid hge
                have HR4 := Lib.hid (hrd3.trans hg2)
                have HON4 := Lib.hid hg3
                have HO4 := Lib.hid (show c4.ops ≤ c.ops + (kk + 1 : Nat) by omega)
                have HFL := Lib.hid (fun (w : World) (F : HL) (h : Holds w F) => fill_any (kk : Int) 128 w F h (by decide))
                have HDL := Lib.hid (fillL_len (kk : Int))
                generalize fillL (kk : Int) 128 = D at *
                have HG3 := Lib.hid hG3
                have HKL := Lib.hid hkl
                clear hkk hkl
                clear hcl hrd4 hc33 hg1 hg2 hg3 hg4 hge hrd3 hon3 hops3 hch3 hH3 hG3
                go_wp2_with fail
                refine HGT.out.mono ?_
                rintro e w4 ⟨v4, Hv4, ve4, He4, Hc4, rfl, hb4, he4, hch4, hH4, hg4⟩
                dsimp only at hb4 he4 hch4
                obtain ⟨rfl, rfl⟩ := isErr0 he4
                rw [hdK_agg']
                have HC4 := Lib.hid hch4
                have HB4 := Lib.hid hb4
                obtain ⟨A9, q9, rfl⟩ := hb4.val
                rw [HDL.out] at HB4 ⊢
                have hG4 := HG3.out.trans hg4
                clear he4 hb4 hch4 hg4 HG3 HGT ca
                go_upto_region 28 with fail
                have hH5 := hH4.alloc (.cells #[.int .i64 1, .int .u64 kk, .int .i64 (1 + kk), .int .i64 0] 37)
                have hG5 := hG4.alloc (.cells #[.int .i64 1, .int .u64 kk, .int .i64 (1 + kk), .int .i64 0] 37)
                generalize w4.alloc (.cells #[.int .i64 1, .int .u64 kk, .int .i64 (1 + kk), .int .i64 0] 37) = w5 at *
                generalize w4.heap.size = gi at *
                have HF5 := Lib.hid (HFL.out w5 _ hH5)
                clear hH4 hG4 hH5
                go_wp2_with fail
                refine HF5.out.mono ?_
                rintro e w6 ⟨v6, H6, rfl, hb6, hH6, hg6⟩
                have hG6 := hG5.trans hg6
                have HSM := Lib.hid (same_any (.slice A9 128 q9) v6 D D w6 (HB4.out.at_ (Fr := []) (hH6.sub (by (repeat' (first | refine sub_append ?_ ?_ | refine sub_cons ?_ ?_ | exact sub_nil)); all_goals first | (intro p hp; simp only [List.mem_append, List.mem_cons, hp, true_or, or_true]) | simp only [List.mem_append, List.mem_cons, true_or, or_true]) (fun b => by simp only [keyc_append, keyc_cons, keyc_nil]; omega))) (hb6.at_ hH6))
                rw [decide_eq_true (rfl : D = D)] at HSM
                obtain ⟨A6, q6, rfl⟩ := hb6.val
                rw [HDL.out] at HSM ⊢
                have hH7 : Holds w6 (Hs ++ (Hc4 ++ (Hp ++ allOf W))) := hH6.sub (by (repeat' (first | refine sub_append ?_ ?_ | refine sub_cons ?_ ?_ | exact sub_nil)); all_goals first | (intro p hp; simp only [List.mem_append, List.mem_cons, hp, true_or, or_true]) | simp only [List.mem_append, List.mem_cons, true_or, or_true]) (fun b => by simp only [keyc_append, keyc_cons, keyc_nil]; omega)
                clear hb6 hH6 hg6 hG5 HF5 HFL
                go_wp2_with fail
                refine HSM.out.mono ?_
                rintro e w7 ⟨rfl, q, rfl⟩
                have hH8 := hH7.drewN q
                have hG8 := hG6.trans (Grew.dr ⟨q, rfl⟩)
                clear hH7 hG6 HSM HB4
                go_wp2_with fail
                go_roundw
                case rel => exact ⟨kk + 1, c4, Hc4, by have := HKL.out; omega, by go_num, HR4.out, HON4.out, HO4.out, HC4.out, hH8, hG8⟩
                case measure => simp [intOf]; omega
              · have hkx : ¬ (kk : Int) < pg.length := by omega
                have HC3 := Lib.hid hch3
                have HMK := Lib.hid (show ∀ j : Nat, j < 16 → c3.markOf (j : Int) = false from fun j hj => by rw [hrd3.mark]; exact HI.out.markOf hj)
                have HMI := Lib.hid (show c3.misuse = 0 by rw [hrd3.mis]; exact HI.out.mis)
                clear hrd3 hon3 hops3 hch3 hkk hkl
                go_wp2_with fail
                clear hkx
                go_loopw [21, 22] (fun nv bv wy => ∃ k : Nat, k ≤ 16 ∧ nv = .int .i64 0 ∧ bv = .int .i64 k ∧ wy = wr) (fun _ b _ => 16 - (intOf b).toNat)
                case atStart => exact ⟨0, by omega, rfl, rfl, rfl⟩
                case round =>
                  obtain ⟨k, hk, rfl, rfl, rfl⟩ := hrel
                  by_cases hk16 : k < 16
                  · have hkk : (k : Int) < 16 := by omega
                    have hkw : IntKind.i64.wrap ((k : Int) + 1) = k + 1 := wrap_i64_id (by omega) (by omega)
                    have hnm := nmarked_any (k : Int) HC3.out (hH3.sub (by (repeat' (first | refine sub_append ?_ ?_ | refine sub_cons ?_ ?_ | exact sub_nil)); all_goals first | (intro p hp; simp only [List.mem_append, List.mem_cons, hp, true_or, or_true]) | simp only [List.mem_append, List.mem_cons, true_or, or_true]) (fun b => by simp only [keyc_append, keyc_cons, keyc_nil]; omega) : Holds wr (Hc3 ++ (Hs ++ (Hp ++ allOf W))))
                    rw [HMK.out k hk16] at hnm
                    have HNM := Lib.hid hnm
                    clear hnm
                    go_wp2_with fail
                    refine HNM.out.mono ?_
                    rintro e w8 ⟨rfl, rfl⟩
                    go_wp2_with fail
                    go_roundw
                    case rel => exact ⟨k + 1, by omega, rfl, by go_num, by first | rfl | trivial⟩
                    case measure => simp [intOf]; omega
                  · have hkk : ¬ (k : Int) < 16 := by omega
                    have hbd := bad_any HS.out HC3.out hH3
                    have hB16 : s.B = 16 := HI.out.has.geo.1
                    rw [badS_eq (mk := fun _ => false) (fun j hj => HMK.out j (by omega)), mkTo_zero (fun _ => rfl)] at hbd
                    have HBD := Lib.hid hbd
                    clear hbd hB16
                    go_wp2_with fail
                    refine HBD.out.mono ?_
                    rintro e w8 ⟨rfl, hH8, hg8⟩
                    have hG8 := hG3.trans hg8
                    have hmi := nmisuse_any HC3.out (hH8.sub (by (repeat' (first | refine sub_append ?_ ?_ | refine sub_cons ?_ ?_ | exact sub_nil)); all_goals first | (intro p hp; simp only [List.mem_append, List.mem_cons, hp, true_or, or_true]) | simp only [List.mem_append, List.mem_cons, true_or, or_true]) (fun b => by simp only [keyc_append, keyc_cons, keyc_nil]; omega) : Holds w8 (Hc3 ++ (Hs ++ (Hp ++ allOf W))))
                    rw [HMI.out] at hmi
                    have HMI2 := Lib.hid hmi
                    have HAW := Lib.hid (awake16_any w8 (allOf W) (hH8.sub (by (repeat' (first | refine sub_append ?_ ?_ | refine sub_cons ?_ ?_ | exact sub_nil)); all_goals first | (intro p hp; simp only [List.mem_append, List.mem_cons, hp, true_or, or_true]) | simp only [List.mem_append, List.mem_cons, true_or, or_true]) (fun b => by simp only [keyc_append, keyc_cons, keyc_nil]; omega)))
                    have hgl : (0 : Int) ≤ gaps.length := by omega
                    clear hmi hg8 hG3 hH3 hH8 HBD
                    go_wp2_with fail
                    refine HMI2.out.mono ?_
                    rintro e wx ⟨rfl, rfl⟩
                    go_wp2_with fail
                    refine HAW.out.mono ?_
                    rintro e wy ⟨rfl, hHy, hgy⟩
                    have hGy := hG8.trans hgy
                    clear HMI2 HAW hgy hG8
                    go_wp2_with fail
                    go_ret
                    exact ⟨rfl, hHy, hGy⟩
end Go.Proofs.YtoelopghilbfeaaGreat
