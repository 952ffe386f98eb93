/-
  Chapter 18: IdealScript.
-/
import Derived.Test.YtinfbpldgobmfaaL18G
import Derived.Test.YtinfbpldgobmfaaL18
namespace Go.Proofs.Ytinfbpldgobmfaa
open Go.RowKit
set_option linter.unusedSimpArgs false
set_option linter.unusedVariables false

/-- both, behind some pairs -/
def ScTo18 (n : Nat) (size : Int) (v1 : Value) (b2 : Nat) (W : World) (i : Value) (wr : World) : Prop :=
  ∃ (k : Nat) (M : List (Int × List BK)) (P : List PV) (A : List Int) (D : List (List UInt8)) (pv : Value) (Hm Hn : HL), k ≤ n ∧ i = .int .i64 k ∧ IsIdeal v1 size M Hm ∧ FrPlaces (Hn ++ allOf W) pv P ∧ Ag M P ∧ Bd A D P ∧
    (A.length ≤ k ∧ D.length ≤ k ∧ ∀ d ∈ D, d.length ≤ 1000) ∧ Holds wr (Hm ++ ((b2, .cells #[.int .i64 size, pv] 76) :: (Hn ++ allOf W))) ∧ Grew W wr
/-- a pair, what is told of it settled -/
def MidP (o : OV) (p : Int) (g : Nat) (b2 : Nat) (size : Int) (pv dv : Value) (Hm Hn : HL) (W : World) (wx : World) : Prop :=
  ∃ (r : RV) (rv av : Value), FrBytes (Hn ++ allOf W) rv r.d ∧ FrWs (Hn ++ allOf W) av r.z ∧ (∀ z ∈ r.z, U64 z) ∧
    Holds wx (Hm ++ ((b2, .cells #[.int .i64 size, pv] 76) :: ((Hn ++ allOf W) ++ [(g, .cells #[.int .i64 o.k, .int .u64 o.a, dv, .int .i64 o.m, .int .i64 r.k, .int .i64 r.c, rv, .bool r.y, av, .int .i64 p] 50)]))) ∧ Grew W wx
theorem pick_z (P : List PV) (a p : Int) : (pickR P a p).z = [] := by unfold pickR; split <;> rfl
theorem cells10 {w : World} {g : Nat} {T : TypeId} {a0 a1 a2 a3 a4 a5 a6 a7 a8 a9 : Value} {F : HL} (h : Holds w ((g, .cells #[a0, a1, a2, a3, a4, a5, a6, a7, a8, a9] T) :: F)) :
    w.cell? ⟨g, 0, none⟩ = some a0 ∧ w.cell? ⟨g, 1, none⟩ = some a1 ∧ w.cell? ⟨g, 2, none⟩ = some a2 ∧ w.cell? ⟨g, 3, none⟩ = some a3 ∧ w.cell? ⟨g, 4, none⟩ = some a4 ∧ w.cell? ⟨g, 5, none⟩ = some a5 ∧ w.cell? ⟨g, 6, none⟩ = some a6 ∧ w.cell? ⟨g, 7, none⟩ = some a7 ∧ w.cell? ⟨g, 8, none⟩ = some a8 ∧ w.cell? ⟨g, 9, none⟩ = some a9 :=
  ⟨h.hcell 0, h.hcell 1, h.hcell 2, h.hcell 3, h.hcell 4, h.hcell 5, h.hcell 6, h.hcell 7, h.hcell 8, h.hcell 9⟩
theorem set10 {w : World} {g : Nat} {T : TypeId} {a0 a1 a2 a3 a4 a5 a6 a7 a8 a9 : Value} {F : HL} (h : Holds w ((g, .cells #[a0, a1, a2, a3, a4, a5, a6, a7, a8, a9] T) :: F)) (x4 x5 x6 x7 x8 : Value) :
    Holds (((((w.setCell ⟨g, 4, none⟩ x4).setCell ⟨g, 5, none⟩ x5).setCell ⟨g, 6, none⟩ x6).setCell ⟨g, 7, none⟩ x7).setCell ⟨g, 8, none⟩ x8) ((g, .cells #[a0, a1, a2, a3, x4, x5, x6, x7, x8, a9] T) :: F) :=
  ((((h.set' 4 x4).set' 5 x5).set' 6 x6).set' 7 x7).set' 8 x8
theorem Grew.set10 {a w : World} (h : Grew a w) (g : Nat) (x4 x5 x6 x7 x8 : Value) : Grew a (((((w.setCell ⟨g, 4, none⟩ x4).setCell ⟨g, 5, none⟩ x5).setCell ⟨g, 6, none⟩ x6).setCell ⟨g, 7, none⟩ x7).setCell ⟨g, 8, none⟩ x8) :=
  ((((h.setCell _ _).setCell _ _).setCell _ _).setCell _ _).setCell _ _
set_option maxRecDepth 20000 in
set_option maxHeartbeats 16000000 in
theorem script18_walk (size : Int) (v : Value) (l : List PR) (W : World) (hv : PRsIn W v l) : Calls Try.prog 5 #[.int .i64 size, v] W (RetFr (.bool true) W (allOf W)) := by
  obtain ⟨hat, hok⟩ := hv
  have hH := holds_all W
  have HA := Lib.hid (fun (w : World) (F : HL) (hx : Holds w F) => awake18_any w F hx)
  have HAT := Lib.hid hat
  have HOK := Lib.hid hok
  have HGR := Lib.hid (great18_any v l W hat hok)
  have hel := ReadsAt.le hat
  unfold maxLen at hel
  obtain ⟨A0, c0, rfl⟩ := hat.val
  clear hat hok
  obtain ⟨n, hn⟩ : ∃ n, n = l.length := ⟨_, rfl⟩
  have HN := Lib.hid hn
  rw [← hn] at hel HGR ⊢
  clear hn
  cases hb : (decide (50 < n) || l.any bigP) with
  | true =>
    rw [hb] at HGR
    have HA1 := Lib.hid (HA.out W _ hH)
    clear HA hH
    go_enter Try.func5, Try.ntmps5
    go_wp2_with fail
    refine HGR.out.mono ?_
    rintro e w' ⟨rfl, rfl⟩
    go_wp2_with fail
    refine HA1.out.mono ?_
    rintro e w' ⟨rfl, h1, h2⟩
    go_wp2_with fail
    go_ret
    exact ⟨rfl, h1, h2⟩
  | false =>
  rw [hb] at HGR
  have hbb : n ≤ 50 ∧ ∀ x ∈ l, bigP x = false := by
    simp only [Bool.or_eq_false_iff, decide_eq_false_iff_not, List.any_eq_false] at hb
    exact ⟨by omega, fun x hx => by simpa using hb.2 x hx⟩
  have hn50 := hbb.1
  have HBIG := Lib.hid hbb.2
  clear hb hbb
  by_cases hsz : 128 ≤ size ∧ size ≤ 256
  · obtain ⟨s1, s2⟩ := hsz
    have HN1 := Lib.hid (idnew_any size W _ hH s1 s2)
    have HN2 := Lib.hid (fun w => r18new_any size w s1 s2)
    clear hH
    go_enter Try.func5, Try.ntmps5
    go_wp2_with fail
    refine HGR.out.mono ?_
    rintro e w' ⟨rfl, rfl⟩
    clear HGR
    go_wp2_with fail
    refine HN1.out.mono ?_
    rintro e w1 ⟨v1, H1, rfl, hi1, hH1, hg1⟩
    obtain ⟨b1, rfl⟩ := hi1.ptr
    have HI1 := Lib.hid hi1
    clear HN1 hi1
    go_wp2_with fail
    refine (HN2.out w1).mono ?_
    rintro e w2 ⟨rfl, rfl⟩
    have hH2 : Holds (w1.alloc (.cells #[.int .i64 size, .slice none 0 0] 76)) (H1 ++ ((w1.heap.size, .cells #[.int .i64 size, .slice none 0 0] 76) :: ([] ++ allOf W))) := Holds.swap (A := [_]) (hH1.alloc _)
    have hg2 := hg1.alloc (.cells #[.int .i64 size, .slice none 0 0] 76)
    clear HN2 hH1 hg1
    generalize w1.alloc (.cells #[.int .i64 size, .slice none 0 0] 76) = w2 at *
    generalize w1.heap.size = b2 at *
    go_wp2_with fail
    go_loopw [7] (fun i wr => ScTo18 n size (.pointer (some ⟨b1, 0, none⟩)) b2 W i wr) (fun i _ => n - (intOf i).toNat)
    case atStart =>
      have hb0 : Bd [] [] [] := fun p hp => absurd hp (by simp)
      exact ⟨0, [], [], [], [], _, H1, [], by omega, rfl, HI1.out, FrPlaces.nil _, Ag.nil, hb0, ⟨by simp, by simp, by simp⟩, hH2, hg2⟩
    case round =>
      clear hH2 hg2 HI1
      obtain ⟨k, M, P, A, D, pv, Hm, Hn, hk, rfl, hi, hfp, hag, hbd, ⟨hA, hD, hDl⟩, hHr, hgr⟩ := hrel
      have HI := Lib.hid hi
      have HFP := Lib.hid hfp
      have HAG := Lib.hid hag
      have HBD := Lib.hid hbd
      have HDL := Lib.hid hDl
      have HHR := Lib.hid hHr
      have HGR := Lib.hid hgr
      clear hi hfp hag hbd hDl hgr
      by_cases hlt : k < n
      · have hlt2 : k < l.length := by rw [← HN.out]; exact hlt
        obtain ⟨bb, oo, rfl, hce⟩ := (HAT.out.all (H := Hm ++ ((b2, .cells #[.int .i64 size, pv] 76) :: Hn)) (by simpa using hHr)).act (by omega)
        obtain ⟨d0, d1, d2, d3, d4, d5, d6, d7, d8, d9⟩ := hce k hlt2
        have hx := HOK.out _ (List.getElem_mem hlt2)
        have hbg := HBIG.out _ (List.getElem_mem hlt2)
        clear hce hHr
        generalize l[k] = x at *
        obtain ⟨⟨ok, oa, od, om⟩, ⟨rk, rc, rd, ry, rz⟩, pk, dv, rv, av⟩ := x
        obtain ⟨hx1, hx2, hx3, hx4, hx5⟩ := hx
        dsimp only at d0 d1 d2 d3 d4 d5 d6 d7 d8 d9 hx1 hx2 hx3 hx4 hx5
        have hdl : od.length ≤ 300 := by
          have h := hbg
          unfold bigP at h
          simp only [Bool.or_eq_false_iff, decide_eq_false_iff_not] at h
          omega
        obtain ⟨Ad, cd, hdv⟩ := hx1.val
        obtain ⟨Ar, cr, hrv⟩ := hx3.val
        obtain ⟨_, Aa, ca, hav, _⟩ := id hx4
        subst hdv hrv hav
        have HB1 := Lib.hid hx1.allFr
        have HB3 := Lib.hid hx3.allFr
        have HB4 := Lib.hid hx4.allFr
        have HU := Lib.hid hx2
        have HZ := Lib.hid hx5
        clear hbg hx1 hx3 hx4 hx2 hx5
        have hH3 : Holds (wr.alloc (.cells #[.int .i64 ok, .int .u64 oa, .slice Ad od.length cd, .int .i64 om, .int .i64 rk, .int .i64 rc, .slice Ar rd.length cr, .bool ry, .slice Aa rz.length ca, .int .i64 pk] 50)) (Hm ++ ((b2, .cells #[.int .i64 size, pv] 76) :: ((Hn ++ allOf W) ++ [(wr.heap.size, (.cells #[.int .i64 ok, .int .u64 oa, .slice Ad od.length cd, .int .i64 om, .int .i64 rk, .int .i64 rc, .slice Ar rd.length cr, .bool ry, .slice Aa rz.length ca, .int .i64 pk] 50))]))) := by
          have h := HHR.out.alloc (.cells #[.int .i64 ok, .int .u64 oa, .slice Ad od.length cd, .int .i64 om, .int .i64 rk, .int .i64 rc, .slice Ar rd.length cr, .bool ry, .slice Aa rz.length ca, .int .i64 pk] 50)
          have h2 : Holds (wr.alloc (.cells #[.int .i64 ok, .int .u64 oa, .slice Ad od.length cd, .int .i64 om, .int .i64 rk, .int .i64 rc, .slice Ar rd.length cr, .bool ry, .slice Aa rz.length ca, .int .i64 pk] 50)) (([(wr.heap.size, (.cells #[.int .i64 ok, .int .u64 oa, .slice Ad od.length cd, .int .i64 om, .int .i64 rk, .int .i64 rc, .slice Ar rd.length cr, .bool ry, .slice Aa rz.length ca, .int .i64 pk] 50))] : HL) ++ (Hm ++ ((b2, .cells #[.int .i64 size, pv] 76) :: (Hn ++ allOf W)))) := h
          have h3 := h2.comm
          simpa using h3
        have hg3 := HGR.out.alloc (.cells #[.int .i64 ok, .int .u64 oa, .slice Ad od.length cd, .int .i64 om, .int .i64 rk, .int .i64 rc, .slice Ar rd.length cr, .bool ry, .slice Aa rz.length ca, .int .i64 pk] 50)
        have HSM := Lib.hid (HBD.out.small HAG.out.pok (by omega) (by omega) HDL.out)
        have hcc : (decide (0 < pk) && (ok == 3)) = decide (0 < pk ∧ ok = 3) := by rw [Bool.decide_and]; rfl
        go_upto_region 12 with fail
        generalize wr.alloc (.cells #[.int .i64 ok, .int .u64 oa, .slice Ad od.length cd, .int .i64 om, .int .i64 rk, .int .i64 rc, .slice Ar rd.length cr, .bool ry, .slice Aa rz.length ca, .int .i64 pk] 50) = wA at *
        generalize wr.heap.size = g at *
        clear d0 d1 d2 d3 d4 d5 d6 d7 d8 d9
        have HP3 : Hid (∀ wx : World, wx = wA → wx.cell? ⟨g, 0, none⟩ = some (.int .i64 ok) ∧ wx.cell? ⟨g, 9, none⟩ = some (.int .i64 pk)) := Lib.hid (fun wx e => by
          subst e
          have h : Holds wx ((Hm ++ ((b2, .cells #[.int .i64 size, pv] 76) :: (Hn ++ allOf W))) ++ [(g, (.cells #[.int .i64 ok, .int .u64 oa, .slice Ad od.length cd, .int .i64 om, .int .i64 rk, .int .i64 rc, .slice Ar rd.length cr, .bool ry, .slice Aa rz.length ca, .int .i64 pk] 50))]) := by simpa using hH3
          exact ⟨h.right.hcell 0, h.right.hcell 9⟩)
        go_cut [49] (fun s49 wx => s49 = .bool (decide (0 < pk ∧ ok = 3)) ∧ wx = wA)
        case first =>
          obtain ⟨y0, y9⟩ := HP3.out wA rfl
          by_cases hp0 : 0 < pk
          · have e0 : decide ((0 : Int) < pk) = true := decide_eq_true hp0
            go_wp2_with fail
            go_meet
            exact ⟨by rw [← hcc, e0]; rfl, rfl⟩
          · have e0 : decide ((0 : Int) < pk) = false := decide_eq_false hp0
            go_wp2_with fail
            go_meet
            exact ⟨by rw [← hcc, e0]; rfl, rfl⟩
        case rest =>
        obtain ⟨rfl, rfl⟩ := hcut
        have HC := Lib.hid hcc
        clear hcc
        obtain ⟨cb, hcb⟩ : ∃ cb, cb = decide (0 < pk ∧ ok = 3) := ⟨_, rfl⟩
        rw [← hcb]
        have HCB := Lib.hid hcb
        clear hcb
        go_upto_if 49 with fail
        go_cut [] (fun wx => MidP ⟨ok, oa, od, om⟩ pk g b2 size pv (.slice Ad od.length cd) Hm Hn W wx)
        case first =>
          cases cb with
          | true =>
            obtain ⟨hp0, hk3⟩ := of_decide_eq_true HCB.out.symm
            subst hk3
            have hd0 : decide ((0 : Int) < pk) = true := decide_eq_true hp0
            have hH4 : Holds wc ((g, (.cells #[.int .i64 3, .int .u64 oa, .slice Ad od.length cd, .int .i64 om, .int .i64 rk, .int .i64 rc, .slice Ar rd.length cr, .bool ry, .slice Aa rz.length ca, .int .i64 pk] 50)) :: (Hm ++ ((b2, .cells #[.int .i64 size, pv] 76) :: (Hn ++ allOf W)))) := hH3.sub (by (repeat' (first | refine sub_append ?_ ?_ | refine sub_cons ?_ ?_ | exact sub_nil)); all_goals first | (intro p hp; simp only [List.mem_append, List.mem_cons, hp, true_or, or_true]) | simp only [List.mem_append, List.mem_cons, true_or, or_true]) (fun b => by simp only [keyc_append, keyc_cons, keyc_nil]; omega)
            have HPK := Lib.hid (picked18_any b2 size pv P ⟨⟨3, oa, od, om⟩, ⟨rk, rc, rd, ry, rz⟩, pk, .slice Ad od.length cd, .slice Ar rd.length cr, .slice Aa rz.length ca⟩ (Hn ++ allOf W) (Hm ++ [(g, (.cells #[.int .i64 3, .int .u64 oa, .slice Ad od.length cd, .int .i64 om, .int .i64 rk, .int .i64 rc, .slice Ar rd.length cr, .bool ry, .slice Aa rz.length ca, .int .i64 pk] 50))]) wc HFP.out HSM.out HAG.out.pok (hH3.sub (by (repeat' (first | refine sub_append ?_ ?_ | refine sub_cons ?_ ?_ | exact sub_nil)); all_goals first | (intro p hp; simp only [List.mem_append, List.mem_cons, hp, true_or, or_true]) | simp only [List.mem_append, List.mem_cons, true_or, or_true]) (fun b => by simp only [keyc_append, keyc_cons, keyc_nil]; omega)))
            simp only [PR.cells] at HPK
            have HPZ := Lib.hid (pick_z P oa pk)
            generalize pickR P oa pk = rr at *
            obtain ⟨k5, c5, d5, y5, z5⟩ := rr
            obtain rfl : z5 = [] := HPZ.out
            simp only [RV.agg] at HPK
            obtain ⟨y0, y1, y2, y3, y4, y5', y6, y7, y8, y9⟩ := cells10 hH4
            have hlt5 := hH4.hlt
            clear hH4 hH3
            go_wp2_with fail
            refine HPK.out.mono ?_
            rintro e w5 ⟨rv5, rfl, hfr5, hH5, hg5⟩
            have hH6 : Holds w5 ((g, (.cells #[.int .i64 3, .int .u64 oa, .slice Ad od.length cd, .int .i64 om, .int .i64 rk, .int .i64 rc, .slice Ar rd.length cr, .bool ry, .slice Aa rz.length ca, .int .i64 pk] 50)) :: (Hm ++ ((b2, .cells #[.int .i64 size, pv] 76) :: (Hn ++ allOf W)))) := hH5.sub (by (repeat' (first | refine sub_append ?_ ?_ | refine sub_cons ?_ ?_ | exact sub_nil)); all_goals first | (intro p hp; simp only [List.mem_append, List.mem_cons, hp, true_or, or_true]) | simp only [List.mem_append, List.mem_cons, true_or, or_true]) (fun b => by simp only [keyc_append, keyc_cons, keyc_nil]; omega)
            obtain ⟨A5, cc5, rfl⟩ := hfr5.sl hH5.tail
            have HFR := Lib.hid hfr5
            have HH6 := Lib.hid (set10 hH6 (.int .i64 k5) (.int .i64 c5) (.slice A5 d5.length cc5) (.bool y5) (.slice none 0 0))
            have HG6 := Lib.hid ((hg3.trans hg5).set10 g (.int .i64 k5) (.int .i64 c5) (.slice A5 d5.length cc5) (.bool y5) (.slice none 0 0))
            clear y0 y1 y2 y3 y4 y5' y6 y7 y8 y9 HPK hH5 hg5 hlt5 hfr5
            obtain ⟨y0, y1, y2, y3, y4, y5', y6, y7, y8, y9⟩ := cells10 hH6
            have r4 := hH6.hfrozen 4
            have r5 := hH6.hfrozen 5
            have r6 := hH6.hfrozen 6
            have r7 := hH6.hfrozen 7
            have r8 := hH6.hfrozen 8
            clear hH6
            go_wp2_with fail
            go_meet
            refine ⟨⟨k5, c5, d5, y5, []⟩, _, _, HFR.out, frw_nil _, by simp, ?_, HG6.out⟩
            have h9 := HH6.out
            exact h9.sub (by (repeat' (first | refine sub_append ?_ ?_ | refine sub_cons ?_ ?_ | exact sub_nil)); all_goals first | (intro p hp; simp only [List.mem_append, List.mem_cons, hp, true_or, or_true]) | simp only [List.mem_append, List.mem_cons, true_or, or_true]) (fun b => by simp only [keyc_append, keyc_cons, keyc_nil]; omega)
          | false =>
            have HH3 := Lib.hid hH3
            have HG3 := Lib.hid hg3
            clear hH3 hg3
            go_wp2_with fail
            go_meet
            exact ⟨⟨rk, rc, rd, ry, rz⟩, _, _, HB3.out.right, FrWs.right HB4.out, HZ.out, HH3.out, HG3.out⟩
        case rest =>
          obtain ⟨r, rv5, av5, hfr, hfa, hzr, hH4, hg4⟩ := hcut
          dsimp only at hH4
          have hh0 := hH4.right.tail.left
          obtain ⟨Ar', cr', rfl⟩ := (hfr wc hh0).val
          obtain ⟨_, Aa', ca', rfl, _⟩ := hfa wc hh0
          clear hh0
          clear hH3 hg3 HB3 HB4 HZ HCB HC HP3
          obtain ⟨tk, tc, td, ty, tz⟩ := r
          have HRD := Lib.hid hfr
          have HRA := Lib.hid hfa
          have HRZ := Lib.hid hzr
          have HG4 := Lib.hid hg4
          dsimp only at *
          have HCP := Lib.hid (r18copy_any b2 size pv P (Hn ++ allOf W) (Hm ++ [(g, (.cells #[.int .i64 ok, .int .u64 oa, .slice Ad od.length cd, .int .i64 om, .int .i64 tk, .int .i64 tc, .slice Ar' td.length cr', .bool ty, .slice Aa' tz.length ca', .int .i64 pk] 50))]) wc HFP.out (by have := HSM.out.1; omega) (hH4.sub (by (repeat' (first | refine sub_append ?_ ?_ | refine sub_cons ?_ ?_ | exact sub_nil)); all_goals first | (intro p hp; simp only [List.mem_append, List.mem_cons, hp, true_or, or_true]) | simp only [List.mem_append, List.mem_cons, true_or, or_true]) (fun b => by simp only [keyc_append, keyc_cons, keyc_nil]; omega)))
          clear hfr hfa hzr hH4 hg4
          go_wp2_with fail
          refine HCP.out.mono ?_
          rintro e w5 ⟨b3, pv3, Hn3, rfl, hfp3, hH5, hg5⟩
          have HG5 := Lib.hid (HG4.out.trans hg5)
          have hHm5 : Holds w5 ((g, (.cells #[.int .i64 ok, .int .u64 oa, .slice Ad od.length cd, .int .i64 om, .int .i64 tk, .int .i64 tc, .slice Ar' td.length cr', .bool ty, .slice Aa' tz.length ca', .int .i64 pk] 50)) :: ((b3, .cells #[.int .i64 size, pv3] 76) :: ((Hn3 ++ (Hn ++ allOf W)) ++ ((b2, .cells #[.int .i64 size, pv] 76) :: Hm)))) := hH5.sub (by (repeat' (first | refine sub_append ?_ ?_ | refine sub_cons ?_ ?_ | exact sub_nil)); all_goals first | (intro p hp; simp only [List.mem_append, List.mem_cons, hp, true_or, or_true]) | simp only [List.mem_append, List.mem_cons, true_or, or_true]) (fun b => by simp only [keyc_append, keyc_cons, keyc_nil]; omega)
          obtain ⟨y0, y1, y2, y3, y4, y5', y6, y7, y8, y9⟩ := cells10 hHm5
          have HTK := Lib.hid (r18take_any b3 size pv3 P ⟨3, oa, [], 0⟩ (.slice none 0 0) ⟨tk, tc, td, ty, tz⟩ (.slice Ar' td.length cr') (.slice Aa' tz.length ca') (Hn3 ++ (Hn ++ allOf W)) (((b2, .cells #[.int .i64 size, pv] 76) :: Hm) ++ [(g, (.cells #[.int .i64 ok, .int .u64 oa, .slice Ad od.length cd, .int .i64 om, .int .i64 tk, .int .i64 tc, .slice Ar' td.length cr', .bool ty, .slice Aa' tz.length ca', .int .i64 pk] 50))]) w5 hfp3 HSM.out (fr_nil _) (by simp) HRD.out.right (FrWs.right HRA.out) (hH5.sub (by (repeat' (first | refine sub_append ?_ ?_ | refine sub_cons ?_ ?_ | exact sub_nil)); all_goals first | (intro p hp; simp only [List.mem_append, List.mem_cons, hp, true_or, or_true]) | simp only [List.mem_append, List.mem_cons, true_or, or_true]) (fun b => by simp only [keyc_append, keyc_cons, keyc_nil]; omega)))
          have HTE := Lib.hid (HAG.out.take size (o := ⟨3, oa, [], 0⟩) ⟨tk, tc, td, ty, tz⟩ HU.out).1
          rw [← HTE.out] at HTK
          simp only [OV.agg, RV.agg] at HTK
          clear HCP hH5 hg5 hHm5 hfp3
          go_wp2_with fail
          refine HTK.out.mono ?_
          rintro e w6 ⟨rfl, pv4, Hn4, hfp4, hH6, hg6⟩
          have hH7 : Holds w6 (Hm ++ ((b2, .cells #[.int .i64 size, pv] 76) :: ((Hn ++ allOf W) ++ [(g, (.cells #[.int .i64 ok, .int .u64 oa, .slice Ad od.length cd, .int .i64 om, .int .i64 tk, .int .i64 tc, .slice Ar' td.length cr', .bool ty, .slice Aa' tz.length ca', .int .i64 pk] 50))]))) := hH6.sub (by (repeat' (first | refine sub_append ?_ ?_ | refine sub_cons ?_ ?_ | exact sub_nil)); all_goals first | (intro p hp; simp only [List.mem_append, List.mem_cons, hp, true_or, or_true]) | simp only [List.mem_append, List.mem_cons, true_or, or_true]) (fun b => by simp only [keyc_append, keyc_cons, keyc_nil]; omega)
          have hg7 := HG5.out.trans hg6
          have HSW : Hid (∀ (wx : World) (X Y : HL), Holds wx (X ++ ((b2, .cells #[.int .i64 size, pv] 76) :: (Y ++ [(g, (.cells #[.int .i64 ok, .int .u64 oa, .slice Ad od.length cd, .int .i64 om, .int .i64 tk, .int .i64 tc, .slice Ar' td.length cr', .bool ty, .slice Aa' tz.length ca', .int .i64 pk] 50))]))) → wx.cell? ⟨g, 0, none⟩ = some (.int .i64 ok) ∧ wx.cell? ⟨g, 1, none⟩ = some (.int .u64 oa) ∧ wx.cell? ⟨g, 2, none⟩ = some (.slice Ad od.length cd) ∧ wx.cell? ⟨g, 3, none⟩ = some (.int .i64 om) ∧ wx.cell? ⟨g, 4, none⟩ = some (.int .i64 tk) ∧ wx.cell? ⟨g, 5, none⟩ = some (.int .i64 tc) ∧ wx.cell? ⟨g, 6, none⟩ = some (.slice Ar' td.length cr') ∧ wx.cell? ⟨g, 7, none⟩ = some (.bool ty) ∧ wx.cell? ⟨g, 8, none⟩ = some (.slice Aa' tz.length ca') ∧ wx.cell? ⟨g, 9, none⟩ = some (.int .i64 pk)) := Lib.hid (fun wx X Y hX => cells10 hX.right.tail.right)
          clear HTK hfp4 hH6 hg6 y0 y1 y2 y3 y4 y5' y6 y7 y8 y9
          obtain ⟨hml, hll⟩ := HAG.out.lenM HBD.out
          have hml2 : M.length ≤ 100000 := by omega
          have hll2 : ∀ p ∈ M, p.2.length ≤ 50000 := fun p hp => by have := hll p hp; omega
          have HFB : Hid (FrBytes ((b2, .cells #[.int .i64 size, pv] 76) :: ((Hn ++ allOf W) ++ [(g, (.cells #[.int .i64 ok, .int .u64 oa, .slice Ad od.length cd, .int .i64 om, .int .i64 tk, .int .i64 tc, .slice Ar' td.length cr', .bool ty, .slice Aa' tz.length ca', .int .i64 pk] 50))])) (.slice Ar' td.length cr') td) := Lib.hid ((HRD.out.left (B := [(g, (.cells #[.int .i64 ok, .int .u64 oa, .slice Ad od.length cd, .int .i64 om, .int .i64 tk, .int .i64 tc, .slice Ar' td.length cr', .bool ty, .slice Aa' tz.length ca', .int .i64 pk] 50))])).right (A := [(b2, .cells #[.int .i64 size, pv] 76)]))
          have HFA : Hid (FrWs ((b2, .cells #[.int .i64 size, pv] 76) :: ((Hn ++ allOf W) ++ [(g, (.cells #[.int .i64 ok, .int .u64 oa, .slice Ad od.length cd, .int .i64 om, .int .i64 tk, .int .i64 tc, .slice Ar' td.length cr', .bool ty, .slice Aa' tz.length ca', .int .i64 pk] 50))])) (.slice Aa' tz.length ca') tz) := Lib.hid (fun wx hx => HRA.out wx (hx.tail.left))
          have HFD : Hid (FrBytes ((b2, .cells #[.int .i64 size, pv] 76) :: ((Hn ++ allOf W) ++ [(g, (.cells #[.int .i64 ok, .int .u64 oa, .slice Ad od.length cd, .int .i64 om, .int .i64 tk, .int .i64 tc, .slice Ar' td.length cr', .bool ty, .slice Aa' tz.length ca', .int .i64 pk] 50))])) (.slice Ad od.length cd) od) := Lib.hid (((HB1.out.right (A := Hn)).left (B := [(g, (.cells #[.int .i64 ok, .int .u64 oa, .slice Ad od.length cd, .int .i64 om, .int .i64 tk, .int .i64 tc, .slice Ar' td.length cr', .bool ty, .slice Aa' tz.length ca', .int .i64 pk] 50))])).right (A := [(b2, .cells #[.int .i64 size, pv] 76)]))
          have HCAN := Lib.hid (fun (wx : World) (hx : Holds wx (Hm ++ ((b2, .cells #[.int .i64 size, pv] 76) :: ((Hn ++ allOf W) ++ [(g, (.cells #[.int .i64 ok, .int .u64 oa, .slice Ad od.length cd, .int .i64 om, .int .i64 tk, .int .i64 tc, .slice Ar' td.length cr', .bool ty, .slice Aa' tz.length ca', .int .i64 pk] 50))])))) => idcan_any (.pointer (some ⟨b1, 0, none⟩)) size M oa ⟨tk, tc, td, ty, tz⟩ (.slice Ar' td.length cr') (.slice Aa' tz.length ca') Hm ((b2, .cells #[.int .i64 size, pv] 76) :: ((Hn ++ allOf W) ++ [(g, (.cells #[.int .i64 ok, .int .u64 oa, .slice Ad od.length cd, .int .i64 om, .int .i64 tk, .int .i64 tc, .slice Ar' td.length cr', .bool ty, .slice Aa' tz.length ca', .int .i64 pk] 50))])) wx HI.out HAG.out.mok HU.out HFB.out HFA.out HRZ.out hml2 hll2 hx)
          have HTF := Lib.hid (fun (wx : World) (hx : Holds wx (Hm ++ ((b2, .cells #[.int .i64 size, pv] 76) :: ((Hn ++ allOf W) ++ [(g, (.cells #[.int .i64 ok, .int .u64 oa, .slice Ad od.length cd, .int .i64 om, .int .i64 tk, .int .i64 tc, .slice Ar' td.length cr', .bool ty, .slice Aa' tz.length ca', .int .i64 pk] 50))])))) => idtakeF_any (.pointer (some ⟨b1, 0, none⟩)) size M ⟨ok, oa, od, om⟩ (.slice Ad od.length cd) ⟨tk, tc, td, ty, tz⟩ (.slice Ar' td.length cr') (.slice Aa' tz.length ca') Hm ((b2, .cells #[.int .i64 size, pv] 76) :: ((Hn ++ allOf W) ++ [(g, (.cells #[.int .i64 ok, .int .u64 oa, .slice Ad od.length cd, .int .i64 om, .int .i64 tk, .int .i64 tc, .slice Ar' td.length cr', .bool ty, .slice Aa' tz.length ca', .int .i64 pk] 50))])) wx HI.out HAG.out.mok HU.out HFD.out HFB.out HFA.out HRZ.out hml2 hll2 hx)
          have HTR := Lib.hid (fun (wx : World) (F : HL) (hx : Holds wx ((b2, .cells #[.int .i64 size, pv] 76) :: ((Hn ++ allOf W) ++ F))) => r18take_any b2 size pv P ⟨ok, oa, od, om⟩ (.slice Ad od.length cd) ⟨tk, tc, td, ty, tz⟩ (.slice Ar' td.length cr') (.slice Aa' tz.length ca') (Hn ++ allOf W) F wx HFP.out HSM.out (HB1.out.right) (by dsimp only; omega) HRD.out HRA.out hx)
          have hag2 := HAG.out.take size (o := ⟨ok, oa, od, om⟩) ⟨tk, tc, td, ty, tz⟩ HU.out
          have hbd2 := HBD.out.take HAG.out.pok size ⟨ok, oa, od, om⟩ ⟨tk, tc, td, ty, tz⟩
          obtain ⟨hag3, hag4⟩ := hag2
          rw [← hag3] at HTR
          clear hag3
          simp only [OV.agg, RV.agg] at HCAN HTF HTR
          dsimp only at hbd2
          have HM1 := Lib.hid (fun (wx : World) h => idmay_any b1 size ok oa (some ⟨b1, 0, none⟩) 0 0 om wx h)
          clear HM1
          have HM1 := Lib.hid (fun (wx : World) h => idmay_any b1 size ok oa Ad od.length cd om wx h)
          have HM2 := Lib.hid (fun (wx : World) h => r18may_any b2 size ok oa Ad od.length cd om wx h)
          have HSZ : Hid (∀ (wx : World) (F : HL), Holds wx (Hm ++ F) → wx.cell? ⟨b1, 0, none⟩ = some (.int .i64 size)) := Lib.hid (by
            obtain ⟨b', mb, es, clock, Hm', hb', hmay, hst, rfl⟩ := HI.out
            injection hb' with hb'
            injection hb' with hb'
            injection hb' with hb'
            subst hb'
            exact fun wx F hx => hx.hcell 0)
          generalize (takeF size M ⟨3, oa, [], 0⟩ ⟨tk, tc, td, ty, tz⟩).1 = bo1 at *
          generalize mayB size ok od.length om = bo2 at *
          generalize (takeF size M ⟨ok, oa, od, om⟩ ⟨tk, tc, td, ty, tz⟩).1 = bo3 at *
          generalize (takeF size M ⟨ok, oa, od, om⟩ ⟨tk, tc, td, ty, tz⟩).2 = M2 at *
          generalize (takeP size P ⟨ok, oa, od, om⟩ ⟨tk, tc, td, ty, tz⟩).2 = P2 at *
          have HAG2 := Lib.hid hag4
          have HBD2 := Lib.hid hbd2
          clear hag4 hbd2 hml hll hll2
          have e1 : (bo1 != bo1) = false := by simp
          have e2 : (bo2 != bo2) = false := by simp
          have e3 : (bo3 != bo3) = false := by simp
          go_upto_region 16 with fail
          refine Z_begin (fun wx => wx.cell? ⟨g, 0, none⟩ = some (.int .i64 ok) ∧ wx.cell? ⟨g, 1, none⟩ = some (.int .u64 oa) ∧ wx.cell? ⟨g, 2, none⟩ = some (.slice Ad od.length cd) ∧ wx.cell? ⟨g, 3, none⟩ = some (.int .i64 om) ∧ wx.cell? ⟨g, 4, none⟩ = some (.int .i64 tk) ∧ wx.cell? ⟨g, 5, none⟩ = some (.int .i64 tc) ∧ wx.cell? ⟨g, 6, none⟩ = some (.slice Ar' td.length cr') ∧ wx.cell? ⟨g, 7, none⟩ = some (.bool ty) ∧ wx.cell? ⟨g, 8, none⟩ = some (.slice Aa' tz.length ca') ∧ wx.cell? ⟨g, 9, none⟩ = some (.int .i64 pk)) 35 (by kernel_rfl) (fun w1 hd => HSW.out _ _ _ (hH7.dr hd)) (fun w1 hd hs => ?_)
          have hH8 := hH7.dr hd; have hG8 := hg7.trans (Grew.dr hd); clear hd hH7 hg7
          refine Z_takeD 0 (some 64) (v := ?_) rfl rfl (by kernel_rfl) (fun _ _ _ h => h) (by rfl) hs ?_ ?_
          rotate_left
          · intro wx hx; obtain ⟨s0, s1, s2, s3, s4, s5, s6, s7, s8, s9⟩ := hx; go_simp; try with_reducible rfl
          simp only [Act.put, List.setIfInBounds_toArray, List.set_cons_succ, List.set_cons_zero]
          refine Z_takeD 1 (some 65) (v := ?_) rfl rfl (by kernel_rfl) (fun _ _ _ h => h) (by rfl) hs ?_ ?_
          rotate_left
          · intro wx hx; obtain ⟨s0, s1, s2, s3, s4, s5, s6, s7, s8, s9⟩ := hx; go_simp; try with_reducible rfl
          simp only [Act.put, List.setIfInBounds_toArray, List.set_cons_succ, List.set_cons_zero]
          refine Z_takeD 2 (some 66) (v := ?_) rfl rfl (by kernel_rfl) (fun _ _ _ h => h) (by rfl) hs ?_ ?_
          rotate_left
          · intro wx hx; obtain ⟨s0, s1, s2, s3, s4, s5, s6, s7, s8, s9⟩ := hx; go_simp; try with_reducible rfl
          simp only [Act.put, List.setIfInBounds_toArray, List.set_cons_succ, List.set_cons_zero]
          refine Z_takeD 3 (some 67) (v := ?_) rfl rfl (by kernel_rfl) (fun _ _ _ h => h) (by rfl) hs ?_ ?_
          rotate_left
          · intro wx hx; obtain ⟨s0, s1, s2, s3, s4, s5, s6, s7, s8, s9⟩ := hx; go_simp; try with_reducible rfl
          simp only [Act.put, List.setIfInBounds_toArray, List.set_cons_succ, List.set_cons_zero]
          refine Z_takeD 4 (some 68) (v := ?_) rfl rfl (by kernel_rfl) (fun _ _ _ h => h) (by rfl) hs ?_ ?_
          rotate_left
          · intro wx hx; obtain ⟨s0, s1, s2, s3, s4, s5, s6, s7, s8, s9⟩ := hx; go_simp; try with_reducible rfl
          simp only [Act.put, List.setIfInBounds_toArray, List.set_cons_succ, List.set_cons_zero]
          refine Z_takeD 5 (some 69) (v := ?_) rfl rfl (by kernel_rfl) (fun _ _ _ h => h) (by rfl) hs ?_ ?_
          rotate_left
          · intro wx hx; obtain ⟨s0, s1, s2, s3, s4, s5, s6, s7, s8, s9⟩ := hx; go_simp; try with_reducible rfl
          simp only [Act.put, List.setIfInBounds_toArray, List.set_cons_succ, List.set_cons_zero]
          refine Z_takeD 7 (some 71) (v := ?_) rfl rfl (by kernel_rfl) (fun _ _ _ h => h) (by rfl) hs ?_ ?_
          rotate_left
          · intro wx hx; obtain ⟨s0, s1, s2, s3, s4, s5, s6, s7, s8, s9⟩ := hx; go_simp; try with_reducible rfl
          simp only [Act.put, List.setIfInBounds_toArray, List.set_cons_succ, List.set_cons_zero]
          refine Z_mid 6 rfl (by kernel_rfl) (fun K hK => ?_)
          have ⟨s0, s1, s2, s3, s4, s5, s6, s7, s8, s9⟩ := hs
          go_simp; refine (HCAN.out w1 hH8).mono ?_; rintro e w8 ⟨rfl, hH9, hg9⟩; have hG9 := hG8.trans hg9; clear hH8 hG8 hg9   -- call w
          clear s0 s1 s2 s3 s4 s5 s6 s7 s8 s9
          refine hK _ _ (HSW.out _ _ _ hH9) (fun hs2 => ?_); clear hK K hs; have hs := hs2; clear hs2
          refine Z_takeD 8 (some 72) (v := ?_) rfl rfl (by kernel_rfl) (fun _ _ _ h => h) (by rfl) hs ?_ ?_
          rotate_left
          · intro wx hx; obtain ⟨s0, s1, s2, s3, s4, s5, s6, s7, s8, s9⟩ := hx; go_simp; try with_reducible rfl
          simp only [Act.put, List.setIfInBounds_toArray, List.set_cons_succ, List.set_cons_zero]
          refine Z_takeD 9 (some 73) (v := ?_) rfl rfl (by kernel_rfl) (fun _ _ _ h => h) (by rfl) hs ?_ ?_
          rotate_left
          · intro wx hx; obtain ⟨s0, s1, s2, s3, s4, s5, s6, s7, s8, s9⟩ := hx; go_simp; try with_reducible rfl
          simp only [Act.put, List.setIfInBounds_toArray, List.set_cons_succ, List.set_cons_zero]
          refine Z_takeD 10 (some 74) (v := ?_) rfl rfl (by kernel_rfl) (fun _ _ _ h => h) (by rfl) hs ?_ ?_
          rotate_left
          · intro wx hx; obtain ⟨s0, s1, s2, s3, s4, s5, s6, s7, s8, s9⟩ := hx; go_simp; try with_reducible rfl
          simp only [Act.put, List.setIfInBounds_toArray, List.set_cons_succ, List.set_cons_zero]
          refine Z_takeD 11 (some 75) (v := ?_) rfl rfl (by kernel_rfl) (fun _ _ _ h => h) (by rfl) hs ?_ ?_
          rotate_left
          · intro wx hx; obtain ⟨s0, s1, s2, s3, s4, s5, s6, s7, s8, s9⟩ := hx; go_simp; try with_reducible rfl
          simp only [Act.put, List.setIfInBounds_toArray, List.set_cons_succ, List.set_cons_zero]
          refine Z_takeD 12 (some 76) (v := ?_) rfl rfl (by kernel_rfl) (fun _ _ _ h => h) (by rfl) hs ?_ ?_
          rotate_left
          · intro wx hx; obtain ⟨s0, s1, s2, s3, s4, s5, s6, s7, s8, s9⟩ := hx; go_simp; try with_reducible rfl
          simp only [Act.put, List.setIfInBounds_toArray, List.set_cons_succ, List.set_cons_zero]
          refine Z_takeD 14 (some 78) (v := ?_) rfl rfl (by kernel_rfl) (fun _ _ _ h => h) (by rfl) hs ?_ ?_
          rotate_left
          · intro wx hx; obtain ⟨s0, s1, s2, s3, s4, s5, s6, s7, s8, s9⟩ := hx; go_simp; try with_reducible rfl
          simp only [Act.put, List.setIfInBounds_toArray, List.set_cons_succ, List.set_cons_zero]
          refine Z_takeD 15 (some 79) (v := ?_) rfl rfl (by kernel_rfl) (fun _ _ _ h => h) (by rfl) hs ?_ ?_
          rotate_left
          · intro wx hx; obtain ⟨s0, s1, s2, s3, s4, s5, s6, s7, s8, s9⟩ := hx; go_simp; try with_reducible rfl
          simp only [Act.put, List.setIfInBounds_toArray, List.set_cons_succ, List.set_cons_zero]
          refine Z_takeD 16 (some 80) (v := ?_) rfl rfl (by kernel_rfl) (fun _ _ _ h => h) (by rfl) hs ?_ ?_
          rotate_left
          · intro wx hx; obtain ⟨s0, s1, s2, s3, s4, s5, s6, s7, s8, s9⟩ := hx; go_simp; try with_reducible rfl
          simp only [Act.put, List.setIfInBounds_toArray, List.set_cons_succ, List.set_cons_zero]
          refine Z_mid 13 rfl (by kernel_rfl) (fun K hK => ?_)
          have ⟨s0, s1, s2, s3, s4, s5, s6, s7, s8, s9⟩ := hs
          go_simp; refine (HM1.out w8 (HSZ.out w8 _ hH9)).mono ?_; rintro e w9 ⟨rfl, rfl⟩; have hHa := hH9.alloc' (.cells #[.int .i64 ok, .int .u64 oa, .slice Ad od.length cd, .int .i64 om] 31); have hGa := hG9.alloc (.cells #[.int .i64 ok, .int .u64 oa, .slice Ad od.length cd, .int .i64 om] 31); generalize w8.alloc (.cells #[.int .i64 ok, .int .u64 oa, .slice Ad od.length cd, .int .i64 om] 31) = w9 at *; clear hH9 hG9   -- call w
          clear s0 s1 s2 s3 s4 s5 s6 s7 s8 s9
          refine hK _ _ (HSW.out _ _ _ hHa) (fun hs2 => ?_); clear hK K hs; have hs := hs2; clear hs2
          refine Z_mid 17 rfl (by kernel_rfl) (fun K hK => ?_)
          have ⟨s0, s1, s2, s3, s4, s5, s6, s7, s8, s9⟩ := hs
          go_simp; refine (HM2.out w9 (hHa.right.hcell 0)).mono ?_; rintro e wb ⟨rfl, rfl⟩; have hHb := hHa.alloc' (.cells #[.int .i64 ok, .int .u64 oa, .slice Ad od.length cd, .int .i64 om] 31); have hGb := hGa.alloc (.cells #[.int .i64 ok, .int .u64 oa, .slice Ad od.length cd, .int .i64 om] 31); generalize w9.alloc (.cells #[.int .i64 ok, .int .u64 oa, .slice Ad od.length cd, .int .i64 om] 31) = wb at *; clear hHa hGa   -- call w
          clear s0 s1 s2 s3 s4 s5 s6 s7 s8 s9
          refine hK _ _ (HSW.out _ _ _ hHb) (fun hs2 => ?_); clear hK K hs; have hs := hs2; clear hs2
          refine Z_takeD 18 (some 82) (v := ?_) rfl rfl (by kernel_rfl) (fun _ _ _ h => h) (by rfl) hs ?_ ?_
          rotate_left
          · intro wx hx; obtain ⟨s0, s1, s2, s3, s4, s5, s6, s7, s8, s9⟩ := hx; go_simp; try with_reducible rfl
          simp only [Act.put, List.setIfInBounds_toArray, List.set_cons_succ, List.set_cons_zero]
          refine Z_takeD 19 (some 83) (v := ?_) rfl rfl (by kernel_rfl) (fun _ _ _ h => h) (by rfl) hs ?_ ?_
          rotate_left
          · intro wx hx; obtain ⟨s0, s1, s2, s3, s4, s5, s6, s7, s8, s9⟩ := hx; go_simp; try with_reducible rfl
          simp only [Act.put, List.setIfInBounds_toArray, List.set_cons_succ, List.set_cons_zero]
          refine Z_takeD 20 (some 84) (v := ?_) rfl rfl (by kernel_rfl) (fun _ _ _ h => h) (by rfl) hs ?_ ?_
          rotate_left
          · intro wx hx; obtain ⟨s0, s1, s2, s3, s4, s5, s6, s7, s8, s9⟩ := hx; go_simp; try with_reducible rfl
          simp only [Act.put, List.setIfInBounds_toArray, List.set_cons_succ, List.set_cons_zero]
          refine Z_takeD 21 (some 85) (v := ?_) rfl rfl (by kernel_rfl) (fun _ _ _ h => h) (by rfl) hs ?_ ?_
          rotate_left
          · intro wx hx; obtain ⟨s0, s1, s2, s3, s4, s5, s6, s7, s8, s9⟩ := hx; go_simp; try with_reducible rfl
          simp only [Act.put, List.setIfInBounds_toArray, List.set_cons_succ, List.set_cons_zero]
          refine Z_takeD 22 (some 86) (v := ?_) rfl rfl (by kernel_rfl) (fun _ _ _ h => h) (by rfl) hs ?_ ?_
          rotate_left
          · intro wx hx; obtain ⟨s0, s1, s2, s3, s4, s5, s6, s7, s8, s9⟩ := hx; go_simp; try with_reducible rfl
          simp only [Act.put, List.setIfInBounds_toArray, List.set_cons_succ, List.set_cons_zero]
          refine Z_takeD 23 (some 87) (v := ?_) rfl rfl (by kernel_rfl) (fun _ _ _ h => h) (by rfl) hs ?_ ?_
          rotate_left
          · intro wx hx; obtain ⟨s0, s1, s2, s3, s4, s5, s6, s7, s8, s9⟩ := hx; go_simp; try with_reducible rfl
          simp only [Act.put, List.setIfInBounds_toArray, List.set_cons_succ, List.set_cons_zero]
          refine Z_takeD 24 (some 88) (v := ?_) rfl rfl (by kernel_rfl) (fun _ _ _ h => h) (by rfl) hs ?_ ?_
          rotate_left
          · intro wx hx; obtain ⟨s0, s1, s2, s3, s4, s5, s6, s7, s8, s9⟩ := hx; go_simp; try with_reducible rfl
          simp only [Act.put, List.setIfInBounds_toArray, List.set_cons_succ, List.set_cons_zero]
          refine Z_takeD 25 (some 89) (v := ?_) rfl rfl (by kernel_rfl) (fun _ _ _ h => h) (by rfl) hs ?_ ?_
          rotate_left
          · intro wx hx; obtain ⟨s0, s1, s2, s3, s4, s5, s6, s7, s8, s9⟩ := hx; go_simp; try with_reducible rfl
          simp only [Act.put, List.setIfInBounds_toArray, List.set_cons_succ, List.set_cons_zero]
          refine Z_takeD 27 (some 91) (v := ?_) rfl rfl (by kernel_rfl) (fun _ _ _ h => h) (by rfl) hs ?_ ?_
          rotate_left
          · intro wx hx; obtain ⟨s0, s1, s2, s3, s4, s5, s6, s7, s8, s9⟩ := hx; go_simp; try with_reducible rfl
          simp only [Act.put, List.setIfInBounds_toArray, List.set_cons_succ, List.set_cons_zero]
          refine Z_takeD 28 (some 92) (v := ?_) rfl rfl (by kernel_rfl) (fun _ _ _ h => h) (by rfl) hs ?_ ?_
          rotate_left
          · intro wx hx; obtain ⟨s0, s1, s2, s3, s4, s5, s6, s7, s8, s9⟩ := hx; go_simp; try with_reducible rfl
          simp only [Act.put, List.setIfInBounds_toArray, List.set_cons_succ, List.set_cons_zero]
          refine Z_takeD 29 (some 93) (v := ?_) rfl rfl (by kernel_rfl) (fun _ _ _ h => h) (by rfl) hs ?_ ?_
          rotate_left
          · intro wx hx; obtain ⟨s0, s1, s2, s3, s4, s5, s6, s7, s8, s9⟩ := hx; go_simp; try with_reducible rfl
          simp only [Act.put, List.setIfInBounds_toArray, List.set_cons_succ, List.set_cons_zero]
          refine Z_takeD 30 (some 94) (v := ?_) rfl rfl (by kernel_rfl) (fun _ _ _ h => h) (by rfl) hs ?_ ?_
          rotate_left
          · intro wx hx; obtain ⟨s0, s1, s2, s3, s4, s5, s6, s7, s8, s9⟩ := hx; go_simp; try with_reducible rfl
          simp only [Act.put, List.setIfInBounds_toArray, List.set_cons_succ, List.set_cons_zero]
          refine Z_takeD 31 (some 95) (v := ?_) rfl rfl (by kernel_rfl) (fun _ _ _ h => h) (by rfl) hs ?_ ?_
          rotate_left
          · intro wx hx; obtain ⟨s0, s1, s2, s3, s4, s5, s6, s7, s8, s9⟩ := hx; go_simp; try with_reducible rfl
          simp only [Act.put, List.setIfInBounds_toArray, List.set_cons_succ, List.set_cons_zero]
          refine Z_mid 26 rfl (by kernel_rfl) (fun K hK => ?_)
          have ⟨s0, s1, s2, s3, s4, s5, s6, s7, s8, s9⟩ := hs
          go_simp; refine (HTF.out wb hHb).mono ?_; rintro e wd ⟨rfl, Hm2, hi2, hHd, hgd⟩; have hGd := hGb.trans hgd; have HI2 := Lib.hid hi2; clear hHb hGb hgd hi2   -- call w
          clear s0 s1 s2 s3 s4 s5 s6 s7 s8 s9
          refine hK _ _ (HSW.out _ _ _ hHd) (fun hs2 => ?_); clear hK K hs; have hs := hs2; clear hs2
          refine Z_mid 32 rfl (by kernel_rfl) (fun K hK => ?_)
          have ⟨s0, s1, s2, s3, s4, s5, s6, s7, s8, s9⟩ := hs
          go_simp; refine (HTR.out wd (Hm2 ++ [(g, (.cells #[.int .i64 ok, .int .u64 oa, .slice Ad od.length cd, .int .i64 om, .int .i64 tk, .int .i64 tc, .slice Ar' td.length cr', .bool ty, .slice Aa' tz.length ca', .int .i64 pk] 50))]) (hHd.sub (by (repeat' (first | refine sub_append ?_ ?_ | refine sub_cons ?_ ?_ | exact sub_nil)); all_goals first | (intro p hp; simp only [List.mem_append, List.mem_cons, hp, true_or, or_true]) | simp only [List.mem_append, List.mem_cons, true_or, or_true]) (fun b => by simp only [keyc_append, keyc_cons, keyc_nil]; omega))).mono ?_; rintro e we ⟨rfl, pv2, Hn2, hfp2, hHe, hge⟩; have hGe := hGd.trans hge; have HFP2 := Lib.hid hfp2; have hHf : Holds we (Hm2 ++ ((b2, .cells #[.int .i64 size, pv2] 76) :: ((Hn2 ++ (Hn ++ allOf W)) ++ [(g, (.cells #[.int .i64 ok, .int .u64 oa, .slice Ad od.length cd, .int .i64 om, .int .i64 tk, .int .i64 tc, .slice Ar' td.length cr', .bool ty, .slice Aa' tz.length ca', .int .i64 pk] 50))]))) := hHe.sub (by (repeat' (first | refine sub_append ?_ ?_ | refine sub_cons ?_ ?_ | exact sub_nil)); all_goals first | (intro p hp; simp only [List.mem_append, List.mem_cons, hp, true_or, or_true]) | simp only [List.mem_append, List.mem_cons, true_or, or_true]) (fun b => by simp only [keyc_append, keyc_cons, keyc_nil]; omega); clear hHd hGd hge hfp2 hHe   -- call w
          clear s0 s1 s2 s3 s4 s5 s6 s7 s8 s9
          refine hK _ _ (cells10 hHf.right.tail.right) (fun hs2 => ?_); clear hK K hs; have hs := hs2; clear hs2
          refine Z_takeD 33 (some 97) (v := ?_) rfl rfl (by kernel_rfl) (fun _ _ _ h => h) (by rfl) hs ?_ ?_
          rotate_left
          · intro wx hx; obtain ⟨s0, s1, s2, s3, s4, s5, s6, s7, s8, s9⟩ := hx; go_simp; try with_reducible rfl
          simp only [Act.put, List.setIfInBounds_toArray, List.set_cons_succ, List.set_cons_zero]
          refine Z_takeD 34 (some 98) (v := ?_) rfl rfl (by kernel_rfl) (fun _ _ _ h => h) (by rfl) hs ?_ ?_
          rotate_left
          · intro wx hx; obtain ⟨s0, s1, s2, s3, s4, s5, s6, s7, s8, s9⟩ := hx; go_simp; try with_reducible rfl
          simp only [Act.put, List.setIfInBounds_toArray, List.set_cons_succ, List.set_cons_zero]
          refine Z_done (by kernel_rfl) ?_ _
          have hHg : Holds we (Hm2 ++ ((b2, .cells #[.int .i64 size, pv2] 76) :: (Hn2 ++ (Hn ++ allOf W)))) := by
            have h : Holds we ((Hm2 ++ ((b2, .cells #[.int .i64 size, pv2] 76) :: (Hn2 ++ (Hn ++ allOf W)))) ++ [(g, (.cells #[.int .i64 ok, .int .u64 oa, .slice Ad od.length cd, .int .i64 om, .int .i64 tk, .int .i64 tc, .slice Ar' td.length cr', .bool ty, .slice Aa' tz.length ca', .int .i64 pk] 50))]) := by simpa using hHf
            exact h.left
          have HSM2 := Lib.hid (HBD2.out.small HAG2.out.pok (by simp only [List.length_cons]; omega) (by simp only [List.length_cons]; omega) (fun d hd => by
            rcases List.mem_cons.1 hd with rfl | hd
            · omega
            · exact HDL.out d hd))
          obtain ⟨hml, hll⟩ := HAG2.out.lenM HBD2.out
          simp only [List.length_cons] at hml hll
          have hml3 : M2.length ≤ 100000 := by omega
          have hll3 : ∀ p ∈ M2, p.2.length ≤ 1000000 := fun p hp => by have := hll p hp; omega
          have HD1 := Lib.hid (iddirty_any (.pointer (some ⟨b1, 0, none⟩)) size M2 Hm2 _ we HI2.out HAG2.out.mok hml3 hll3 hHg)
          have HD3 := Lib.hid (fun (wx : World) (F : HL) (hx : Holds wx (Hm2 ++ F)) => idaddrs_any (.pointer (some ⟨b1, 0, none⟩)) size M2 Hm2 F wx HI2.out HAG2.out.mok hml3 hll3 hx)
          have HD2 := Lib.hid (fun (wx : World) (F : HL) (hx : Holds wx ((b2, .cells #[.int .i64 size, pv2] 76) :: ((Hn2 ++ (Hn ++ allOf W)) ++ F))) => r18dirty_any b2 size pv2 P2 (Hn2 ++ (Hn ++ allOf W)) F wx HFP2.out HSM2.out hx)
          have HD4 := Lib.hid (fun (wx : World) (F : HL) (hx : Holds wx ((b2, .cells #[.int .i64 size, pv2] 76) :: ((Hn2 ++ (Hn ++ allOf W)) ++ F))) => r18addrs_any b2 size pv2 P2 (Hn2 ++ (Hn ++ allOf W)) F wx HFP2.out (by have := HSM2.out.1; omega) hx)
          have l1 := mustP_len P2
          have l2 := mayP_len P2
          have l3 : (P2.map (·.a)).length ≤ P2.length := by simp
          have l0 := HSM2.out.1
          rw [HAG2.out.addrs_sure, HAG2.out.addrs_may] at HD1
          rw [HAG2.out.addrs_some] at HD3
          generalize mustP P2 = x1 at *
          generalize mayP P2 = x2 at *
          generalize P2.map (·.a) = x3 at *
          clear hml hll hs hHf HTR HCAN HTF HM1 HM2 HSZ HSW HFB HFA HFD
          go_wp2_with fail
          refine HD1.out.mono ?_
          rintro e w11 ⟨v1, v2, H1, H2, rfl, hw1, hw2, hH11, hg11⟩
          obtain ⟨A1, c1, rfl⟩ := hw1.val
          obtain ⟨A2, c2, rfl⟩ := hw2.val
          have HW1 := Lib.hid hw1
          have HW2 := Lib.hid hw2
          have hG11 := hGe.trans hg11
          have HD22 := Lib.hid (HD2.out w11 (H1 ++ (H2 ++ Hm2)) (hH11.sub (by (repeat' (first | refine sub_append ?_ ?_ | refine sub_cons ?_ ?_ | exact sub_nil)); all_goals first | (intro p hp; simp only [List.mem_append, List.mem_cons, hp, true_or, or_true]) | simp only [List.mem_append, List.mem_cons, true_or, or_true]) (fun b => by simp only [keyc_append, keyc_cons, keyc_nil]; omega)))
          clear HD1 HD2 hw1 hw2 hH11 hg11 hGe hHg
          go_wp2_with fail
          refine HD22.out.mono ?_
          rintro e w12 ⟨v3, v4, H3, H4, rfl, hw3, hw4, hH12, hg12⟩
          obtain ⟨A3, c3, rfl⟩ := hw3.val
          obtain ⟨A4, c4, rfl⟩ := hw4.val
          have HW3 := Lib.hid hw3
          have HW4 := Lib.hid hw4
          have hG12 := hG11.trans hg12
          have HD33 := Lib.hid (HD3.out w12 (H3 ++ (H4 ++ (H1 ++ (H2 ++ ((b2, .cells #[.int .i64 size, pv2] 76) :: (Hn2 ++ (Hn ++ allOf W))))))) (hH12.sub (by (repeat' (first | refine sub_append ?_ ?_ | refine sub_cons ?_ ?_ | exact sub_nil)); all_goals first | (intro p hp; simp only [List.mem_append, List.mem_cons, hp, true_or, or_true]) | simp only [List.mem_append, List.mem_cons, true_or, or_true]) (fun b => by simp only [keyc_append, keyc_cons, keyc_nil]; omega)))
          clear HD22 HD3 hw3 hw4 hH12 hg12 hG11
          go_wp2_with fail
          refine HD33.out.mono ?_
          rintro e w13 ⟨v5, H5, rfl, hw5, hH13, hg13⟩
          obtain ⟨A5, c5, rfl⟩ := hw5.val
          have HW5 := Lib.hid hw5
          have hG13 := hG12.trans hg13
          have hb1 : Holds w13 (H1 ++ (H3 ++ (H2 ++ (H4 ++ (H5 ++ (Hm2 ++ ((b2, .cells #[.int .i64 size, pv2] 76) :: (Hn2 ++ (Hn ++ allOf W))))))))) := hH13.sub (by (repeat' (first | refine sub_append ?_ ?_ | refine sub_cons ?_ ?_ | exact sub_nil)); all_goals first | (intro p hp; simp only [List.mem_append, List.mem_cons, hp, true_or, or_true]) | simp only [List.mem_append, List.mem_cons, true_or, or_true]) (fun b => by simp only [keyc_append, keyc_cons, keyc_nil]; omega)
          have HS1 := Lib.hid (same64_any _ _ x1 x1 w13 (HW1.out.at_ hb1) (HW3.out.at_ (Holds.swap hb1)))
          have hb2 : Holds w13 (H2 ++ (H4 ++ (H1 ++ (H3 ++ (H5 ++ (Hm2 ++ ((b2, .cells #[.int .i64 size, pv2] 76) :: (Hn2 ++ (Hn ++ allOf W))))))))) := hb1.sub (by (repeat' (first | refine sub_append ?_ ?_ | refine sub_cons ?_ ?_ | exact sub_nil)); all_goals first | (intro p hp; simp only [List.mem_append, List.mem_cons, hp, true_or, or_true]) | simp only [List.mem_append, List.mem_cons, true_or, or_true]) (fun b => by simp only [keyc_append, keyc_cons, keyc_nil]; omega)
          have HS2 := Lib.hid (fun q => same64_any _ _ x2 x2 (w13.drewN q) (HW2.out.at_ (hb2.drewN q)) (HW4.out.at_ (Holds.swap (hb2.drewN q))))
          rw [show decide (x1 = x1) = true from decide_eq_true rfl] at HS1
          rw [show decide (x2 = x2) = true from decide_eq_true rfl] at HS2
          clear HD33 hw5 hH13 hg13 hG12 hb2
          go_wp2_with fail
          refine HS1.out.mono ?_
          rintro e w14 ⟨rfl, q1, rfl⟩
          go_wp2_with fail
          refine (HS2.out q1).mono ?_
          rintro e w15 ⟨rfl, q2, rfl⟩
          have hb4 := (hb1.drewN q1).drewN q2
          have hG15 := (hG13.drewN q1).drewN q2
          generalize (w13.drewN q1).drewN q2 = w15 at *
          have HD44 := Lib.hid (HD4.out w15 (H1 ++ (H3 ++ (H2 ++ (H4 ++ (H5 ++ Hm2))))) (hb4.sub (by (repeat' (first | refine sub_append ?_ ?_ | refine sub_cons ?_ ?_ | exact sub_nil)); all_goals first | (intro p hp; simp only [List.mem_append, List.mem_cons, hp, true_or, or_true]) | simp only [List.mem_append, List.mem_cons, true_or, or_true]) (fun b => by simp only [keyc_append, keyc_cons, keyc_nil]; omega)))
          clear HS1 HS2 hb1 hG13 HD4 hb4
          go_wp2_with fail
          refine HD44.out.mono ?_
          rintro e w16 ⟨v6, H6, rfl, hw6, hH16, hg16⟩
          obtain ⟨A6, c6, rfl⟩ := hw6.val
          have hb5 : Holds w16 (H5 ++ (H6 ++ (H1 ++ (H2 ++ (Hm2 ++ ((b2, .cells #[.int .i64 size, pv2] 76) :: (Hn2 ++ (Hn ++ allOf W)))))))) := hH16.sub (by (repeat' (first | refine sub_append ?_ ?_ | refine sub_cons ?_ ?_ | exact sub_nil)); all_goals first | (intro p hp; simp only [List.mem_append, List.mem_cons, hp, true_or, or_true]) | simp only [List.mem_append, List.mem_cons, true_or, or_true]) (fun b => by simp only [keyc_append, keyc_cons, keyc_nil]; omega)
          have HS3 := Lib.hid (same64_any _ _ x3 x3 w16 (HW5.out.at_ hb5) (hw6.at_ (Holds.swap hb5)))
          rw [show decide (x3 = x3) = true from decide_eq_true rfl] at HS3
          have hG16 := hG15.trans hg16
          clear HD44 hw6 hH16 hg16 hG15
          go_wp2_with fail
          refine HS3.out.mono ?_
          rintro e w17 ⟨rfl, q3, rfl⟩
          have hb6 := hb5.drewN q3
          have hG17 := hG16.drewN q3
          generalize w16.drewN q3 = w17 at *
          have HO1 := Lib.hid (over64_any _ x1 H1 (H2 ++ (H5 ++ (Hm2 ++ ((b2, .cells #[.int .i64 size, pv2] 76) :: (Hn2 ++ (Hn ++ allOf W)))))) w17 HW1.out (hb6.sub (by (repeat' (first | refine sub_append ?_ ?_ | refine sub_cons ?_ ?_ | exact sub_nil)); all_goals first | (intro p hp; simp only [List.mem_append, List.mem_cons, hp, true_or, or_true]) | simp only [List.mem_append, List.mem_cons, true_or, or_true]) (fun b => by simp only [keyc_append, keyc_cons, keyc_nil]; omega)) (by omega))
          clear HS3 hb5 hG16 hb6
          go_wp2_with fail
          refine HO1.out.mono ?_
          rintro e w18 ⟨rfl, hH18, hg18⟩
          have HO2 := Lib.hid (over64_any _ x2 H2 _ w18 HW2.out hH18 (by omega))
          have hG18 := hG17.trans hg18
          clear HO1 hH18 hg18 hG17
          go_wp2_with fail
          refine HO2.out.mono ?_
          rintro e w19 ⟨rfl, hH19, hg19⟩
          have HO3 := Lib.hid (over64_any _ x3 H5 _ w19 HW5.out hH19 (by omega))
          have hG19 := hG18.trans hg19
          clear HO2 hH19 hg19 hG18
          go_wp2_with fail
          refine HO3.out.mono ?_
          rintro e w20 ⟨rfl, hH20, hg20⟩
          have hG20 := hG19.trans hg20
          clear HO3 hg20 hG19
          go_wp2_with fail
          go_roundw
          case rel =>
            refine ⟨k + 1, M2, P2, oa :: A, od :: D, pv2, Hm2, Hn2 ++ Hn, by omega, by go_num, HI2.out, by rw [List.append_assoc]; exact HFP2.out, HAG2.out, HBD2.out, ⟨by simp only [List.length_cons]; omega, by simp only [List.length_cons]; omega, fun d hd => ?_⟩, by rw [List.append_assoc]; exact hH20, hG20⟩
            rcases List.mem_cons.1 hd with rfl | hd
            · omega
            · exact HDL.out d hd
          case measure => simp only [intOf]; omega
      · have hk2 : k = n := by omega
        subst hk2
        have HA2 := Lib.hid (HA.out wr _ hHr)
        clear HA
        go_wp2_with fail
        refine HA2.out.mono ?_
        rintro e w' ⟨rfl, h1, h2⟩
        have h3 : Holds w' ((Hm ++ ((b2, .cells #[.int .i64 size, pv] 76) :: Hn)) ++ allOf W) := by simpa using h1
        have hfin := h3.right
        have hgf := HGR.out.trans h2
        clear h1 h3
        go_wp2_with fail
        go_ret
        exact ⟨rfl, hfin, hgf⟩
  · have hs0 : size < 128 ∨ 256 < size := by omega
    have HN1 := Lib.hid (idnew_nil size W hs0)
    have HN2 := Lib.hid (r18new_nil size W hs0)
    have HA1 := Lib.hid (HA.out W _ hH)
    clear HA hH hs0 hsz
    go_enter Try.func5, Try.ntmps5
    go_wp2_with fail
    refine HGR.out.mono ?_
    rintro e w' ⟨rfl, rfl⟩
    go_wp2_with fail
    refine HN1.out.mono ?_
    rintro e w' ⟨rfl, rfl⟩
    go_wp2_with fail
    refine HN2.out.mono ?_
    rintro e w' ⟨rfl, rfl⟩
    go_wp2_with fail
    refine HA1.out.mono ?_
    rintro e w' ⟨rfl, h1, h2⟩
    go_wp2_with fail
    go_ret
    exact ⟨rfl, h1, h2⟩
end Go.Proofs.Ytinfbpldgobmfaa
