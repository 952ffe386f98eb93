/-
  Chapter 18: IdealFixes.
-/
import Derived.Test.YtinfbpldgobmfaaL18D
namespace Go.Proofs.Ytinfbpldgobmfaa
open Go.RowKit
set_option linter.unusedSimpArgs false
set_option linter.unusedVariables false

set_option maxRecDepth 20000 in
set_option maxHeartbeats 8000000 in
theorem fixes18_false (addr a b : Int) (ha : U64 addr) (W : World) : Calls Try.prog 4 #[.int .u64 addr, .int .i64 a, .int .i64 b, .bool false] W (RetFr (.bool true) W (allOf W)) := by
  have hH := holds_all W
  have HN := Lib.hid (idnew_any 128 W _ hH (by decide) (by decide))
  have HAW := Lib.hid (fun (wx : World) (F : HL) (h : Holds wx F) => awake18_any wx F h)
  have HFX := Lib.hid (fun (w : World) (F : HL) (h : Holds w F) => fill_any a 128 w F h (by decide))
  have HFY := Lib.hid (fun (w : World) (F : HL) (h : Holds w F) => fill_any b 128 w F h (by decide))
  have hlx := fill128 a
  have hly := fill128 b
  generalize fillL a 128 = x at *
  generalize fillL b 128 = y at *
  have HT := Lib.hid (fun (v : Value) (M : List (Int × List BK)) (hM : MOk M) (hs : M.length ≤ 100000 ∧ ∀ p ∈ M, p.2.length ≤ 50000) (o : OV) (dv : Value) (r : RV) (rdv : Value) (H F : HL) (w : World) (h : IsIdeal v 128 M H) (hoa : o.a = addr) (hz : r.z = []) (hd : FrBytes F dv o.d) (hrd : FrBytes F rdv r.d) (hH : Holds w (H ++ F)) =>
    idtakeF_any v 128 M o dv r rdv (.slice none 0 0) H F w h hM (by rw [hoa]; exact ha) hd hrd (by rw [hz]; exact frw_nil F) (by rw [hz]; intro x hx; cases hx) hs.1 hs.2 hH)
  have HCA := Lib.hid (fun (v : Value) (M : List (Int × List BK)) (hM : MOk M) (hs : M.length ≤ 100000 ∧ ∀ p ∈ M, p.2.length ≤ 50000) (r : RV) (rdv : Value) (H F : HL) (w : World) (h : IsIdeal v 128 M H) (hz : r.z = []) (hrd : FrBytes F rdv r.d) (hH : Holds w (H ++ F)) =>
    idcan_any v 128 M addr r rdv (.slice none 0 0) H F w h hM ha hrd (by rw [hz]; exact frw_nil F) (by rw [hz]; intro x hx; cases hx) hs.1 hs.2 hH)
  have HCP := Lib.hid (fun (v : Value) (M : List (Int × List BK)) (hM : MOk M) (hs : M.length ≤ 100000 ∧ ∀ p ∈ M, p.2.length ≤ 50000) (H F : HL) (w : World) (h : IsIdeal v 128 M H) (hH : Holds w (H ++ F)) =>
    idcopy_any v 128 M H F w h hM (fun p hp => by have := hs.2 p hp; omega) hH)
  have HA := Lib.hid ha
  clear ha
  simp only [OV.agg, RV.agg] at *
  go_enter Try.func4, Try.ntmps4
  go_wp2_with fail
  refine HN.out.mono ?_
  rintro e w1 ⟨v1, H1, rfl, hi1, hH1, hg1⟩
  obtain ⟨b1, rfl⟩ := hi1.ptr
  have HI1 := Lib.hid hi1
  have HW1 := Lib.hid (HAW.out _ _ hH1)
  clear HN hi1 hH
  by_cases hq : a.tmod 1073741824 = b.tmod 1073741824
  · clear HT HCA HCP
    go_wp2_with fail
    refine HW1.out.mono ?_
    rintro e w2 ⟨rfl, hH2, hg2⟩
    go_wp2_with fail
    go_ret
    exact ⟨rfl, hH2.right, hg1.trans hg2⟩
  have HC2 := Lib.hid (HFX.out _ _ hH1)
  have HQN := Lib.hid hq
  clear HW1 hH1
  go_wp2_with fail
  refine HC2.out.mono ?_
  rintro e w2 ⟨v2, H2, rfl, hb2, hH2, hg2⟩
  have HC3 := Lib.hid (HFY.out _ _ hH2)
  have HB2 := Lib.hid hb2
  obtain ⟨A2, c2, rfl⟩ := hb2.val
  rw [hlx] at HB2 ⊢
  clear hb2 HC2 hH2 HFX
  go_wp2_with fail
  refine HC3.out.mono ?_
  rintro e w3 ⟨v3, H3, rfl, hb3, hH3, hg3⟩
  have HB3 := Lib.hid hb3
  obtain ⟨A3, c3, rfl⟩ := hb3.val
  rw [hly] at HB3 ⊢
  have hH4 : Holds w3 (H1 ++ (H3 ++ (H2 ++ allOf W))) := hH3.sub (by (repeat' (first | refine sub_append ?_ ?_ | refine sub_cons ?_ ?_ | exact sub_nil)); all_goals first | (intro p hp; simp only [List.mem_append, List.mem_cons, hp, true_or, or_true]) | simp only [List.mem_append, List.mem_cons, true_or, or_true]) (fun b => by simp only [keyc_append, keyc_cons, keyc_nil]; omega)
  have hg4 := (hg1.trans hg2).trans hg3
  have HFX : Hid (FrBytes (H3 ++ (H2 ++ allOf W)) (.slice A2 128 c2) x) := Lib.hid (FrBytes.right (FrBytes.left (fun wx hx => HB2.out.at_ (Fr := []) (by simpa using hx))))
  have HFY : Hid (FrBytes (H3 ++ (H2 ++ allOf W)) (.slice A3 128 c3) y) := Lib.hid (FrBytes.left (fun wx hx => HB3.out.at_ (Fr := []) (by simpa using hx)))
  have HQ : Hid (∀ (wx : World) (X : HL), Holds wx (X ++ (H3 ++ (H2 ++ allOf W))) → Holds wx (allOf W)) := Lib.hid (fun wx X hx => hx.right.right.right)
  generalize H3 ++ (H2 ++ allOf W) = Q at *
  have HSA := Lib.hid (fun (wx : World) (X : HL) (hx : Holds wx (X ++ Q)) => same_any (.slice A2 128 c2) (.slice A3 128 c3) x y wx (HFX.out wx hx.right) (HFY.out wx hx.right))
  have HS3 := Lib.hid (HSA.out _ _ hH4)
  clear hb3 HC3 hH3 hg1 hg2 hg3 HB2 HB3
  by_cases hxy : x = y
  · rw [decide_eq_true hxy] at HS3 HSA
    have HH4 := Lib.hid hH4
    clear HT HCA HCP hH4
    go_wp2_with fail
    refine HS3.out.mono ?_
    rintro e w4 ⟨rfl, k4, rfl⟩
    have hH5 := HH4.out.drewN k4
    have hg5 := hg4.drewN k4
    have HS5 := Lib.hid (HSA.out _ _ hH5)
    generalize w3.drewN k4 = w4 at *
    clear HS3 HSA HH4 hg4
    go_wp2_with fail
    refine HS5.out.mono ?_
    rintro e w5 ⟨rfl, k5, rfl⟩
    have hH6 := hH5.drewN k5
    have hg6 := hg5.drewN k5
    have HW6 := Lib.hid (HAW.out _ _ hH6)
    generalize w4.drewN k5 = w5 at *
    clear HS5 hH5 hg5 hH6
    go_wp2_with fail
    refine HW6.out.mono ?_
    rintro e w7 ⟨rfl, hH7, hg7⟩
    go_wp2_with fail
    go_ret
    exact ⟨rfl, HQ.out _ _ hH7, hg6.trans hg7⟩
  rw [decide_eq_false hxy] at HS3
  have HXY := Lib.hid hxy
  have HH4 := Lib.hid hH4
  have HLX := Lib.hid hlx
  have HLY := Lib.hid hly
  clear hH4 HSA hxy hlx hly
  have HT1 := Lib.hid (fun (w : World) (hH : Holds w (H1 ++ Q)) => HT.out (.pointer (some ⟨b1, 0, none⟩)) [] MOk.nil (by simp) ⟨1, addr, x, 0⟩ (.slice A2 128 c2) ⟨1, 0, [], false, []⟩ (.slice none 0 0) H1 Q w HI1.out rfl rfl HFX.out (fr_nil _) hH)
  rw [f_first (by rw [HLX.out]; rfl)] at HT1
  go_wp2_with fail
  refine HS3.out.mono ?_
  rintro e w4 ⟨rfl, k4, rfl⟩
  have hH5 := HH4.out.drewN k4
  have hg5 := hg4.drewN k4
  have HC5 := Lib.hid (HT1.out _ hH5)
  generalize w3.drewN k4 = w4 at *
  clear HS3 HH4 hg4 HT1 hH5
  go_wp2_with fail
  refine HC5.out.mono ?_
  rintro e w5 ⟨rfl, H5, hi5, hH6, hg6⟩
  have HC6 := Lib.hid (HT.out (.pointer (some ⟨b1, 0, none⟩)) _ (mok_dirts HA.out (by simp)) (small_dirts (by simp)) ⟨1, addr, y, 0⟩ (.slice A3 128 c3) ⟨4, 4, [], false, []⟩ (.slice none 0 0) H5 Q w5 hi5 rfl rfl HFY.out (fr_nil _) hH6)
  rw [f_dark (by rw [HLY.out]; rfl) (by simp)] at HC6
  have hg7 := hg5.trans hg6
  clear HC5 hi5 hH6 hg5 hg6 HI1
  go_wp2_with fail
  refine HC6.out.mono ?_
  rintro e w6 ⟨rfl, H6, hi6, hH7, hg8⟩
  have hg9 := hg7.trans hg8
  have HI6 := Lib.hid hi6
  have HC7 := Lib.hid (HCP.out _ _ (mok_dirts HA.out (by simp)) (small_dirts (by simp)) H6 Q w6 hi6 hH7)
  clear HC6 hi6 hH7 hg7 hg8
  go_wp2_with fail
  refine HC7.out.mono ?_
  rintro e w7 ⟨vc, Hc, rfl, ⟨M', hp7, hi7⟩, hH8, hg10⟩
  obtain rfl : M' = oneM addr ([x] ++ [y]) := List.perm_singleton.1 hp7
  have HI7 := Lib.hid hi7
  obtain ⟨bc, rfl⟩ := hi7.ptr
  have hg11 := hg9.trans hg10
  have HM2 := Lib.hid (mok_dirts (ds := [x] ++ [y]) HA.out (by simp))
  have HS2 := Lib.hid (small_dirts (a := addr) (ds := [x] ++ [y]) (by simp))
  clear HC7 hi7 hp7 hg9 hg10 HCP
  go_upto_if 11 with fail
  have hH9 : Holds ((w7.alloc (.cells #[.int .i64 2, .int .i64 0, .slice A2 128 c2, .bool true, .slice none 0 0] 34)).alloc (.cells #[.int .i64 2, .int .i64 0, .slice A3 128 c3, .bool true, .slice none 0 0] 34)) (H6 ++ (Hc ++ ((w7.heap.size + 1, (.cells #[.int .i64 2, .int .i64 0, .slice A3 128 c3, .bool true, .slice none 0 0] 34)) :: ((w7.heap.size, (.cells #[.int .i64 2, .int .i64 0, .slice A2 128 c2, .bool true, .slice none 0 0] 34)) :: Q)))) := by
    have h := (hH8.alloc (.cells #[.int .i64 2, .int .i64 0, .slice A2 128 c2, .bool true, .slice none 0 0] 34)).alloc (.cells #[.int .i64 2, .int .i64 0, .slice A3 128 c3, .bool true, .slice none 0 0] 34)
    rw [World.size_alloc] at h
    exact h.sub (by (repeat' (first | refine sub_append ?_ ?_ | refine sub_cons ?_ ?_ | exact sub_nil)); all_goals first | (intro p hp; simp only [List.mem_append, List.mem_cons, hp, true_or, or_true]) | simp only [List.mem_append, List.mem_cons, true_or, or_true]) (fun b => by simp only [keyc_append, keyc_cons, keyc_nil]; omega)
  have hg12 := (hg11.alloc (.cells #[.int .i64 2, .int .i64 0, .slice A2 128 c2, .bool true, .slice none 0 0] 34)).alloc (.cells #[.int .i64 2, .int .i64 0, .slice A3 128 c3, .bool true, .slice none 0 0] 34)
  generalize (w7.alloc (.cells #[.int .i64 2, .int .i64 0, .slice A2 128 c2, .bool true, .slice none 0 0] 34)).alloc (.cells #[.int .i64 2, .int .i64 0, .slice A3 128 c3, .bool true, .slice none 0 0] 34) = w8 at *
  generalize w7.heap.size + 1 = g2 at *
  generalize w7.heap.size = g1 at *
  have HBX : Hid (∀ (wx : World) (X : HL), Holds wx (X ++ ((g2, (.cells #[.int .i64 2, .int .i64 0, .slice A3 128 c3, .bool true, .slice none 0 0] 34)) :: ((g1, (.cells #[.int .i64 2, .int .i64 0, .slice A2 128 c2, .bool true, .slice none 0 0] 34)) :: Q))) → (wx.cell? ⟨g1, 0, none⟩ = some (.int .i64 2) ∧ wx.cell? ⟨g1, 1, none⟩ = some (.int .i64 0) ∧ wx.cell? ⟨g1, 2, none⟩ = some (.slice A2 128 c2) ∧ wx.cell? ⟨g1, 3, none⟩ = some (.bool true) ∧ wx.cell? ⟨g1, 4, none⟩ = some (.slice none 0 0)) ∧
      wx.cell? ⟨g2, 0, none⟩ = some (.int .i64 2) ∧ wx.cell? ⟨g2, 1, none⟩ = some (.int .i64 0) ∧ wx.cell? ⟨g2, 2, none⟩ = some (.slice A3 128 c3) ∧ wx.cell? ⟨g2, 3, none⟩ = some (.bool true) ∧ wx.cell? ⟨g2, 4, none⟩ = some (.slice none 0 0)) := Lib.hid (fun wx X h => by
    have h1 := h.right
    have h2 := h1.tail
    exact ⟨⟨h2.hcell 0, h2.hcell 1, h2.hcell 2, h2.hcell 3, h2.hcell 4⟩, h1.hcell 0, h1.hcell 1, h1.hcell 2, h1.hcell 3, h1.hcell 4⟩)
  have HFT : Hid (FrBytes ((g2, (.cells #[.int .i64 2, .int .i64 0, .slice A3 128 c3, .bool true, .slice none 0 0] 34)) :: ((g1, (.cells #[.int .i64 2, .int .i64 0, .slice A2 128 c2, .bool true, .slice none 0 0] 34)) :: Q)) (.slice A2 128 c2) x) := Lib.hid (FrBytes.right (A := [_, _]) HFX.out)
  have HFO : Hid (FrBytes ((g2, (.cells #[.int .i64 2, .int .i64 0, .slice A3 128 c3, .bool true, .slice none 0 0] 34)) :: ((g1, (.cells #[.int .i64 2, .int .i64 0, .slice A2 128 c2, .bool true, .slice none 0 0] 34)) :: Q)) (.slice A3 128 c3) y) := Lib.hid (FrBytes.right (A := [_, _]) HFY.out)
  have HQ2 : Hid (∀ (wx : World) (X : HL), Holds wx (X ++ ((g2, (.cells #[.int .i64 2, .int .i64 0, .slice A3 128 c3, .bool true, .slice none 0 0] 34)) :: ((g1, (.cells #[.int .i64 2, .int .i64 0, .slice A2 128 c2, .bool true, .slice none 0 0] 34)) :: Q))) → Holds wx (allOf W)) := Lib.hid (fun wx X hx => HQ.out wx (X ++ [_, _]) (by simpa using hx))
  generalize ((g2, (.cells #[.int .i64 2, .int .i64 0, .slice A3 128 c3, .bool true, .slice none 0 0] 34)) :: ((g1, (.cells #[.int .i64 2, .int .i64 0, .slice A2 128 c2, .bool true, .slice none 0 0] 34)) :: Q)) = R at *
  obtain ⟨⟨s0, s1, s2, s3, s4⟩, t0, t1, t2, t3, t4⟩ := HBX.out w8 (H6 ++ Hc) (by simpa using hH9)
  have HCC := Lib.hid (fun (w : World) (hH : Holds w (H6 ++ (Hc ++ R))) => HCA.out (.pointer (some ⟨b1, 0, none⟩)) _ HM2.out HS2.out ⟨2, 0, x, true, []⟩ (.slice A2 128 c2) H6 (Hc ++ R) w HI6.out rfl HFT.out.right hH)
  have HCO := Lib.hid (fun (w : World) (hH : Holds w (H6 ++ (Hc ++ R))) => HCA.out (.pointer (some ⟨b1, 0, none⟩)) _ HM2.out HS2.out ⟨2, 0, y, true, []⟩ (.slice A3 128 c3) H6 (Hc ++ R) w HI6.out rfl HFO.out.right hH)
  have HCN := Lib.hid (fun (w : World) (hH : Holds w (H6 ++ (Hc ++ R))) => HCA.out (.pointer (some ⟨b1, 0, none⟩)) _ HM2.out HS2.out ⟨4, 8, [], false, []⟩ (.slice none 0 0) H6 (Hc ++ R) w HI6.out rfl (fr_nil _) hH)
  have HDC := Lib.hid (fun (w : World) (H F : HL) (hH : Holds w (Hc ++ (H ++ (F ++ R)))) => HCA.out (.pointer (some ⟨bc, 0, none⟩)) _ HM2.out HS2.out ⟨2, 0, x, true, []⟩ (.slice A2 128 c2) Hc (H ++ (F ++ R)) w HI7.out rfl HFT.out.right.right hH)
  have HDO := Lib.hid (fun (w : World) (H F : HL) (hH : Holds w (Hc ++ (H ++ (F ++ R)))) => HCA.out (.pointer (some ⟨bc, 0, none⟩)) _ HM2.out HS2.out ⟨2, 0, y, true, []⟩ (.slice A3 128 c3) Hc (H ++ (F ++ R)) w HI7.out rfl HFO.out.right.right hH)
  have HX4 := Lib.hid (fun (w : World) (F : HL) (hH : Holds w (H6 ++ (F ++ R))) => HT.out (.pointer (some ⟨b1, 0, none⟩)) _ HM2.out HS2.out ⟨3, addr, [], 0⟩ (.slice none 0 0) ⟨2, 0, x, true, []⟩ (.slice A2 128 c2) H6 (F ++ R) w HI6.out rfl rfl (fr_nil _) HFT.out.right hH)
  have HX5 := Lib.hid (fun (w : World) (H F : HL) (hi : IsIdeal (.pointer (some ⟨b1, 0, none⟩)) 128 (oneM addr [x]) H) (hH : Holds w (H ++ (F ++ R))) => HT.out (.pointer (some ⟨b1, 0, none⟩)) _ (mok_dirts HA.out (by simp)) (small_dirts (by simp)) ⟨3, addr, [], 0⟩ (.slice none 0 0) ⟨2, 0, y, true, []⟩ (.slice A3 128 c3) H (F ++ R) w hi rfl rfl (fr_nil _) HFO.out.right hH)
  have HX6 := Lib.hid (fun (w : World) (H F : HL) (hi : IsIdeal (.pointer (some ⟨b1, 0, none⟩)) 128 (oneM addr [x]) H) (hH : Holds w (H ++ (F ++ R))) => HT.out (.pointer (some ⟨b1, 0, none⟩)) _ (mok_dirts HA.out (by simp)) (small_dirts (by simp)) ⟨3, addr, [], 0⟩ (.slice none 0 0) ⟨2, 0, x, true, []⟩ (.slice A2 128 c2) H (F ++ R) w hi rfl rfl (fr_nil _) HFT.out.right hH)
  have HX7 := Lib.hid (fun (w : World) (H F : HL) (hi : IsIdeal (.pointer (some ⟨b1, 0, none⟩)) 128 (oneM addr [x]) H) (hH : Holds w (H ++ F)) => HT.out (.pointer (some ⟨b1, 0, none⟩)) _ (mok_dirts HA.out (by simp)) (small_dirts (by simp)) ⟨5, addr, [], 0⟩ (.slice none 0 0) ⟨1, 0, [], false, []⟩ (.slice none 0 0) H F w hi rfl rfl (fr_nil _) (fr_nil _) hH)
  have HX8 := Lib.hid (fun (w : World) (H F : HL) (hi : IsIdeal (.pointer (some ⟨b1, 0, none⟩)) 128 (cleanM addr x) H) (hH : Holds w (H ++ F)) => HT.out (.pointer (some ⟨b1, 0, none⟩)) _ (mok_clean HA.out) (by simp [cleanM]) ⟨3, addr, [], 0⟩ (.slice none 0 0) ⟨4, 8, [], false, []⟩ (.slice none 0 0) H F w hi rfl rfl (fr_nil _) (fr_nil _) hH)
  have HX9 := Lib.hid (fun (w : World) (H F : HL) (hi : IsIdeal (.pointer (some ⟨b1, 0, none⟩)) 128 [] H) (hH : Holds w (H ++ (F ++ R))) => HCA.out (.pointer (some ⟨b1, 0, none⟩)) _ MOk.nil (by simp) ⟨2, 0, x, true, []⟩ (.slice A2 128 c2) H (F ++ R) w hi rfl HFT.out.right hH)
  rw [f_got (by simp) (by simp)] at HCC HCO HDC HDO HX4 HX6
  rw [f_none (by simp)] at HCN
  rw [f_other (by simp) (by simp; exact fun h => HXY.out h.symm)] at HX5
  rw [f_wash] at HX7
  rw [f_gone] at HX8
  rw [f_empty] at HX9
  dsimp only at HCC HCO HCN HDC HDO HX4 HX5 HX6 HX7 HX8 HX9
  have HY1 := Lib.hid (HCC.out w8 hH9)
  clear HT HCA HFX HFY HFT HFO HQ hH8 hH9 HM2 HS2 HI6 HI7 HCC
  refine HY1.out.mono ?_
  rintro e w9 ⟨rfl, hH10, hg13⟩
  have hg14 := hg12.trans hg13
  have HY2 := Lib.hid (HCO.out w9 hH10)
  clear HY1 HCO hg12 hg13 s0 s1 s2 s3 s4 t0 t1 t2 t3 t4
  obtain ⟨⟨s0, s1, s2, s3, s4⟩, t0, t1, t2, t3, t4⟩ := HBX.out w9 (H6 ++ Hc) (by simpa using hH10)
  clear hH10
  go_wp2_with fail
  refine HY2.out.mono ?_
  rintro e w10 ⟨rfl, hH11, hg15⟩
  have hg16 := hg14.trans hg15
  have HY3 := Lib.hid (HCN.out w10 hH11)
  clear HY2 HCN hg14 hg15 s0 s1 s2 s3 s4 t0 t1 t2 t3 t4 hH11
  go_wp2_with fail
  refine HY3.out.mono ?_
  rintro e w11 ⟨rfl, hH12, hg17⟩
  have hg18 := hg16.trans hg17
  have HH12 := Lib.hid hH12
  clear HY3 hg16 hg17
  have hH13 : Holds (w11.alloc (.cells #[.int .i64 3, .int .u64 addr, .slice none 0 0, .int .i64 0] 31)) (H6 ++ ((Hc ++ [(w11.heap.size, (.cells #[.int .i64 3, .int .u64 addr, .slice none 0 0, .int .i64 0] 31))]) ++ R)) := by
    have h := hH12.alloc (.cells #[.int .i64 3, .int .u64 addr, .slice none 0 0, .int .i64 0] 31)
    exact h.sub (by (repeat' (first | refine sub_append ?_ ?_ | refine sub_cons ?_ ?_ | exact sub_nil)); all_goals first | (intro p hp; simp only [List.mem_append, List.mem_cons, hp, true_or, or_true]) | simp only [List.mem_append, List.mem_cons, true_or, or_true]) (fun b => by simp only [keyc_append, keyc_cons, keyc_nil]; omega)
  have HFE : Hid (∀ (wx : World) (X : HL), Holds wx (X ++ ((Hc ++ [(w11.heap.size, (.cells #[.int .i64 3, .int .u64 addr, .slice none 0 0, .int .i64 0] 31))]) ++ R)) → (wx.cell? ⟨w11.heap.size, 0, none⟩ = some (.int .i64 3) ∧ wx.cell? ⟨w11.heap.size, 1, none⟩ = some (.int .u64 addr) ∧ wx.cell? ⟨w11.heap.size, 2, none⟩ = some (.slice none 0 0) ∧ wx.cell? ⟨w11.heap.size, 3, none⟩ = some (.int .i64 0)) ∧
      (wx.cell? ⟨g1, 0, none⟩ = some (.int .i64 2) ∧ wx.cell? ⟨g1, 1, none⟩ = some (.int .i64 0) ∧ wx.cell? ⟨g1, 2, none⟩ = some (.slice A2 128 c2) ∧ wx.cell? ⟨g1, 3, none⟩ = some (.bool true) ∧ wx.cell? ⟨g1, 4, none⟩ = some (.slice none 0 0)) ∧
      wx.cell? ⟨g2, 0, none⟩ = some (.int .i64 2) ∧ wx.cell? ⟨g2, 1, none⟩ = some (.int .i64 0) ∧ wx.cell? ⟨g2, 2, none⟩ = some (.slice A3 128 c3) ∧ wx.cell? ⟨g2, 3, none⟩ = some (.bool true) ∧ wx.cell? ⟨g2, 4, none⟩ = some (.slice none 0 0)) := Lib.hid (fun wx X h => by
    have h1 : Holds wx ((w11.heap.size, (.cells #[.int .i64 3, .int .u64 addr, .slice none 0 0, .int .i64 0] 31)) :: R) := (show Holds wx (X ++ (Hc ++ ((w11.heap.size, (.cells #[.int .i64 3, .int .u64 addr, .slice none 0 0, .int .i64 0] 31)) :: R))) by simpa using h).right.right
    exact ⟨⟨h1.hcell 0, h1.hcell 1, h1.hcell 2, h1.hcell 3⟩, HBX.out wx [_] h1⟩)
  have hg19 := hg18.alloc (.cells #[.int .i64 3, .int .u64 addr, .slice none 0 0, .int .i64 0] 31)
  obtain ⟨⟨r0, r1, r2, r3⟩, ⟨s0, s1, s2, s3, s4⟩, t0, t1, t2, t3, t4⟩ := HFE.out _ _ hH13
  have HY4 := Lib.hid (HX4.out _ _ hH13)
  clear hg18 HBX hH12 hH13 HH12 HX4
  go_wp2_with fail
  refine HY4.out.mono ?_
  generalize w11.alloc (.cells #[.int .i64 3, .int .u64 addr, .slice none 0 0, .int .i64 0] 31) = w12 at *
  generalize w11.heap.size = g3 at *
  rintro e w13 ⟨rfl, H13, hi13, hH14, hg20⟩
  have hg21 := hg19.trans hg20
  have HY5 := Lib.hid (HX5.out _ _ _ hi13 hH14)
  clear HY4 HX5 hi13 hg19 hg20 r0 r1 r2 r3 s0 s1 s2 s3 s4 t0 t1 t2 t3 t4
  obtain ⟨⟨r0, r1, r2, r3⟩, ⟨s0, s1, s2, s3, s4⟩, t0, t1, t2, t3, t4⟩ := HFE.out _ _ hH14
  clear hH14
  go_wp2_with fail
  refine HY5.out.mono ?_
  rintro e w14 ⟨rfl, H14, hi14, hH15, hg22⟩
  have hg23 := hg21.trans hg22
  have HY6 := Lib.hid (HX6.out _ _ _ hi14 hH15)
  clear HY5 HX6 hi14 hg21 hg22 r0 r1 r2 r3 s0 s1 s2 s3 s4 t0 t1 t2 t3 t4
  obtain ⟨⟨r0, r1, r2, r3⟩, ⟨s0, s1, s2, s3, s4⟩, t0, t1, t2, t3, t4⟩ := HFE.out _ _ hH15
  clear hH15
  go_wp2_with fail
  refine HY6.out.mono ?_
  rintro e w15 ⟨rfl, H15, hi15, hH16, hg24⟩
  have hg25 := hg23.trans hg24
  have HI15 := Lib.hid hi15
  have hH17 : Holds w15 (Hc ++ (H15 ++ ([(g3, (.cells #[.int .i64 3, .int .u64 addr, .slice none 0 0, .int .i64 0] 31))] ++ R))) := hH16.sub (by (repeat' (first | refine sub_append ?_ ?_ | refine sub_cons ?_ ?_ | exact sub_nil)); all_goals first | (intro p hp; simp only [List.mem_append, List.mem_cons, hp, true_or, or_true]) | simp only [List.mem_append, List.mem_cons, true_or, or_true]) (fun b => by simp only [keyc_append, keyc_cons, keyc_nil]; omega)
  have HY7 := Lib.hid (HDO.out _ _ _ hH17)
  clear HY6 HDO hi15 hg23 hg24 r0 r1 r2 r3 s0 s1 s2 s3 s4 t0 t1 t2 t3 t4
  obtain ⟨⟨r0, r1, r2, r3⟩, ⟨s0, s1, s2, s3, s4⟩, t0, t1, t2, t3, t4⟩ := HFE.out _ _ hH16
  clear hH16 hH17
  go_wp2_with fail
  refine HY7.out.mono ?_
  rintro e w16 ⟨rfl, hH18, hg26⟩
  have hg27 := hg25.trans hg26
  have HY8 := Lib.hid (HDC.out _ _ _ hH18)
  have hH19 : Holds w16 (H15 ++ ((Hc ++ [(g3, (.cells #[.int .i64 3, .int .u64 addr, .slice none 0 0, .int .i64 0] 31))]) ++ R)) := hH18.sub (by (repeat' (first | refine sub_append ?_ ?_ | refine sub_cons ?_ ?_ | exact sub_nil)); all_goals first | (intro p hp; simp only [List.mem_append, List.mem_cons, hp, true_or, or_true]) | simp only [List.mem_append, List.mem_cons, true_or, or_true]) (fun b => by simp only [keyc_append, keyc_cons, keyc_nil]; omega)
  clear HY7 HDC hg25 hg26 r0 r1 r2 r3 s0 s1 s2 s3 s4 t0 t1 t2 t3 t4
  obtain ⟨⟨r0, r1, r2, r3⟩, ⟨s0, s1, s2, s3, s4⟩, t0, t1, t2, t3, t4⟩ := HFE.out _ _ hH19
  clear hH18 hH19
  go_wp2_with fail
  refine HY8.out.mono ?_
  rintro e w17 ⟨rfl, hH20, hg28⟩
  have hg29 := hg27.trans hg28
  have hH21 : Holds w17 (H15 ++ ((Hc ++ [(g3, (.cells #[.int .i64 3, .int .u64 addr, .slice none 0 0, .int .i64 0] 31))]) ++ R)) := hH20.sub (by (repeat' (first | refine sub_append ?_ ?_ | refine sub_cons ?_ ?_ | exact sub_nil)); all_goals first | (intro p hp; simp only [List.mem_append, List.mem_cons, hp, true_or, or_true]) | simp only [List.mem_append, List.mem_cons, true_or, or_true]) (fun b => by simp only [keyc_append, keyc_cons, keyc_nil]; omega)
  have HY9 := Lib.hid (HX7.out _ _ _ HI15.out hH21)
  clear HY8 HX7 hg27 hg28 r0 r1 r2 r3 s0 s1 s2 s3 s4 t0 t1 t2 t3 t4 hH20 hH21 HI15
  go_wp2_with fail
  refine HY9.out.mono ?_
  rintro e w18 ⟨rfl, H18, hi18, hH22, hg30⟩
  have hg31 := hg29.trans hg30
  have HY10 := Lib.hid (HX8.out _ _ _ hi18 hH22)
  clear HY9 HX8 hg29 hg30 hi18
  obtain ⟨⟨r0, r1, r2, r3⟩, ⟨s0, s1, s2, s3, s4⟩, t0, t1, t2, t3, t4⟩ := HFE.out _ _ hH22
  clear hH22
  go_wp2_with fail
  refine HY10.out.mono ?_
  rintro e w19 ⟨rfl, H19, hi19, hH23, hg32⟩
  have hg33 := hg31.trans hg32
  have HY11 := Lib.hid (HX9.out _ _ _ hi19 hH23)
  clear HY10 HX9 hg31 hg32 hi19 r0 r1 r2 r3 s0 s1 s2 s3 s4 t0 t1 t2 t3 t4
  obtain ⟨⟨r0, r1, r2, r3⟩, ⟨s0, s1, s2, s3, s4⟩, t0, t1, t2, t3, t4⟩ := HFE.out _ _ hH23
  clear hH23
  go_wp2_with fail
  refine HY11.out.mono ?_
  rintro e w20 ⟨rfl, hH24, hg34⟩
  have hg35 := hg33.trans hg34
  have HY12 := Lib.hid (HAW.out _ _ hH24)
  clear HY11 hH24 hg33 hg34 r0 r1 r2 r3 s0 s1 s2 s3 s4 t0 t1 t2 t3 t4
  go_wp2_with fail
  refine HY12.out.mono ?_
  rintro e w21 ⟨rfl, hH25, hg36⟩
  go_wp2_with fail
  go_ret
  exact ⟨rfl, HQ2.out _ (H19 ++ (Hc ++ [(g3, (.cells #[.int .i64 3, .int .u64 addr, .slice none 0 0, .int .i64 0] 31))])) (by simpa using hH25), hg35.trans hg36⟩
set_option maxRecDepth 20000 in
set_option maxHeartbeats 8000000 in
theorem fixes18_true (addr a b : Int) (ha : U64 addr) (W : World) : Calls Try.prog 4 #[.int .u64 addr, .int .i64 a, .int .i64 b, .bool true] W (RetFr (.bool true) W (allOf W)) := by
  have hH := holds_all W
  have HN := Lib.hid (idnew_any 128 W _ hH (by decide) (by decide))
  have HAW := Lib.hid (fun (wx : World) (F : HL) (h : Holds wx F) => awake18_any wx F h)
  have HFX := Lib.hid (fun (w : World) (F : HL) (h : Holds w F) => fill_any a 128 w F h (by decide))
  have HFY := Lib.hid (fun (w : World) (F : HL) (h : Holds w F) => fill_any b 128 w F h (by decide))
  have hlx := fill128 a
  have hly := fill128 b
  generalize fillL a 128 = x at *
  generalize fillL b 128 = y at *
  have HT := Lib.hid (fun (v : Value) (M : List (Int × List BK)) (hM : MOk M) (hs : M.length ≤ 100000 ∧ ∀ p ∈ M, p.2.length ≤ 50000) (o : OV) (dv : Value) (r : RV) (rdv : Value) (H F : HL) (w : World) (h : IsIdeal v 128 M H) (hoa : o.a = addr) (hz : r.z = []) (hd : FrBytes F dv o.d) (hrd : FrBytes F rdv r.d) (hH : Holds w (H ++ F)) =>
    idtakeF_any v 128 M o dv r rdv (.slice none 0 0) H F w h hM (by rw [hoa]; exact ha) hd hrd (by rw [hz]; exact frw_nil F) (by rw [hz]; intro x hx; cases hx) hs.1 hs.2 hH)
  have HCA := Lib.hid (fun (v : Value) (M : List (Int × List BK)) (hM : MOk M) (hs : M.length ≤ 100000 ∧ ∀ p ∈ M, p.2.length ≤ 50000) (r : RV) (rdv : Value) (H F : HL) (w : World) (h : IsIdeal v 128 M H) (hz : r.z = []) (hrd : FrBytes F rdv r.d) (hH : Holds w (H ++ F)) =>
    idcan_any v 128 M addr r rdv (.slice none 0 0) H F w h hM ha hrd (by rw [hz]; exact frw_nil F) (by rw [hz]; intro x hx; cases hx) hs.1 hs.2 hH)
  have HCP := Lib.hid (fun (v : Value) (M : List (Int × List BK)) (hM : MOk M) (hs : M.length ≤ 100000 ∧ ∀ p ∈ M, p.2.length ≤ 50000) (H F : HL) (w : World) (h : IsIdeal v 128 M H) (hH : Holds w (H ++ F)) =>
    idcopy_any v 128 M H F w h hM (fun p hp => by have := hs.2 p hp; omega) hH)
  have HA := Lib.hid ha
  clear ha
  simp only [OV.agg, RV.agg] at *
  go_enter Try.func4, Try.ntmps4
  go_wp2_with fail
  refine HN.out.mono ?_
  rintro e w1 ⟨v1, H1, rfl, hi1, hH1, hg1⟩
  obtain ⟨b1, rfl⟩ := hi1.ptr
  have HI1 := Lib.hid hi1
  have HW1 := Lib.hid (HAW.out _ _ hH1)
  clear HN hi1 hH
  by_cases hq : a.tmod 1073741824 = b.tmod 1073741824
  · clear HT HCA HCP
    go_wp2_with fail
    refine HW1.out.mono ?_
    rintro e w2 ⟨rfl, hH2, hg2⟩
    go_wp2_with fail
    go_ret
    exact ⟨rfl, hH2.right, hg1.trans hg2⟩
  have HC2 := Lib.hid (HFX.out _ _ hH1)
  have HQN := Lib.hid hq
  clear HW1 hH1
  go_wp2_with fail
  refine HC2.out.mono ?_
  rintro e w2 ⟨v2, H2, rfl, hb2, hH2, hg2⟩
  have HC3 := Lib.hid (HFY.out _ _ hH2)
  have HB2 := Lib.hid hb2
  obtain ⟨A2, c2, rfl⟩ := hb2.val
  rw [hlx] at HB2 ⊢
  clear hb2 HC2 hH2 HFX
  go_wp2_with fail
  refine HC3.out.mono ?_
  rintro e w3 ⟨v3, H3, rfl, hb3, hH3, hg3⟩
  have HB3 := Lib.hid hb3
  obtain ⟨A3, c3, rfl⟩ := hb3.val
  rw [hly] at HB3 ⊢
  have hH4 : Holds w3 (H1 ++ (H3 ++ (H2 ++ allOf W))) := hH3.sub (by (repeat' (first | refine sub_append ?_ ?_ | refine sub_cons ?_ ?_ | exact sub_nil)); all_goals first | (intro p hp; simp only [List.mem_append, List.mem_cons, hp, true_or, or_true]) | simp only [List.mem_append, List.mem_cons, true_or, or_true]) (fun b => by simp only [keyc_append, keyc_cons, keyc_nil]; omega)
  have hg4 := (hg1.trans hg2).trans hg3
  have HFX : Hid (FrBytes (H3 ++ (H2 ++ allOf W)) (.slice A2 128 c2) x) := Lib.hid (FrBytes.right (FrBytes.left (fun wx hx => HB2.out.at_ (Fr := []) (by simpa using hx))))
  have HFY : Hid (FrBytes (H3 ++ (H2 ++ allOf W)) (.slice A3 128 c3) y) := Lib.hid (FrBytes.left (fun wx hx => HB3.out.at_ (Fr := []) (by simpa using hx)))
  have HQ : Hid (∀ (wx : World) (X : HL), Holds wx (X ++ (H3 ++ (H2 ++ allOf W))) → Holds wx (allOf W)) := Lib.hid (fun wx X hx => hx.right.right.right)
  generalize H3 ++ (H2 ++ allOf W) = Q at *
  have HSA := Lib.hid (fun (wx : World) (X : HL) (hx : Holds wx (X ++ Q)) => same_any (.slice A2 128 c2) (.slice A3 128 c3) x y wx (HFX.out wx hx.right) (HFY.out wx hx.right))
  have HS3 := Lib.hid (HSA.out _ _ hH4)
  clear hb3 HC3 hH3 hg1 hg2 hg3 HB2 HB3
  by_cases hxy : x = y
  · rw [decide_eq_true hxy] at HS3 HSA
    have HH4 := Lib.hid hH4
    clear HT HCA HCP hH4
    go_wp2_with fail
    refine HS3.out.mono ?_
    rintro e w4 ⟨rfl, k4, rfl⟩
    have hH5 := HH4.out.drewN k4
    have hg5 := hg4.drewN k4
    have HS5 := Lib.hid (HSA.out _ _ hH5)
    generalize w3.drewN k4 = w4 at *
    clear HS3 HSA HH4 hg4
    go_wp2_with fail
    refine HS5.out.mono ?_
    rintro e w5 ⟨rfl, k5, rfl⟩
    have hH6 := hH5.drewN k5
    have hg6 := hg5.drewN k5
    have HW6 := Lib.hid (HAW.out _ _ hH6)
    generalize w4.drewN k5 = w5 at *
    clear HS5 hH5 hg5 hH6
    go_wp2_with fail
    refine HW6.out.mono ?_
    rintro e w7 ⟨rfl, hH7, hg7⟩
    go_wp2_with fail
    go_ret
    exact ⟨rfl, HQ.out _ _ hH7, hg6.trans hg7⟩
  rw [decide_eq_false hxy] at HS3
  have HXY := Lib.hid hxy
  have HH4 := Lib.hid hH4
  have HLX := Lib.hid hlx
  have HLY := Lib.hid hly
  clear hH4 HSA hxy hlx hly
  have HT1 := Lib.hid (fun (w : World) (hH : Holds w (H1 ++ Q)) => HT.out (.pointer (some ⟨b1, 0, none⟩)) [] MOk.nil (by simp) ⟨1, addr, x, 0⟩ (.slice A2 128 c2) ⟨1, 0, [], false, []⟩ (.slice none 0 0) H1 Q w HI1.out rfl rfl HFX.out (fr_nil _) hH)
  rw [f_first (by rw [HLX.out]; rfl)] at HT1
  go_wp2_with fail
  refine HS3.out.mono ?_
  rintro e w4 ⟨rfl, k4, rfl⟩
  have hH5 := HH4.out.drewN k4
  have hg5 := hg4.drewN k4
  have HC5 := Lib.hid (HT1.out _ hH5)
  generalize w3.drewN k4 = w4 at *
  clear HS3 HH4 hg4 HT1 hH5
  go_wp2_with fail
  refine HC5.out.mono ?_
  rintro e w5 ⟨rfl, H5, hi5, hH6, hg6⟩
  have HC6 := Lib.hid (HT.out (.pointer (some ⟨b1, 0, none⟩)) _ (mok_dirts HA.out (by simp)) (small_dirts (by simp)) ⟨1, addr, y, 0⟩ (.slice A3 128 c3) ⟨4, 4, [], false, []⟩ (.slice none 0 0) H5 Q w5 hi5 rfl rfl HFY.out (fr_nil _) hH6)
  rw [f_dark (by rw [HLY.out]; rfl) (by simp)] at HC6
  have hg7 := hg5.trans hg6
  clear HC5 hi5 hH6 hg5 hg6 HI1
  go_wp2_with fail
  refine HC6.out.mono ?_
  rintro e w6 ⟨rfl, H6, hi6, hH7, hg8⟩
  have hg9 := hg7.trans hg8
  have HI6 := Lib.hid hi6
  have HC7 := Lib.hid (HCP.out _ _ (mok_dirts HA.out (by simp)) (small_dirts (by simp)) H6 Q w6 hi6 hH7)
  clear HC6 hi6 hH7 hg7 hg8
  go_wp2_with fail
  refine HC7.out.mono ?_
  rintro e w7 ⟨vc, Hc, rfl, ⟨M', hp7, hi7⟩, hH8, hg10⟩
  obtain rfl : M' = oneM addr ([x] ++ [y]) := List.perm_singleton.1 hp7
  have HI7 := Lib.hid hi7
  obtain ⟨bc, rfl⟩ := hi7.ptr
  have hg11 := hg9.trans hg10
  have HM2 := Lib.hid (mok_dirts (ds := [x] ++ [y]) HA.out (by simp))
  have HS2 := Lib.hid (small_dirts (a := addr) (ds := [x] ++ [y]) (by simp))
  clear HC7 hi7 hp7 hg9 hg10 HCP
  go_upto_if 11 with fail
  have hH9 : Holds ((w7.alloc (.cells #[.int .i64 2, .int .i64 0, .slice A3 128 c3, .bool true, .slice none 0 0] 34)).alloc (.cells #[.int .i64 2, .int .i64 0, .slice A2 128 c2, .bool true, .slice none 0 0] 34)) (H6 ++ (Hc ++ ((w7.heap.size + 1, (.cells #[.int .i64 2, .int .i64 0, .slice A2 128 c2, .bool true, .slice none 0 0] 34)) :: ((w7.heap.size, (.cells #[.int .i64 2, .int .i64 0, .slice A3 128 c3, .bool true, .slice none 0 0] 34)) :: Q)))) := by
    have h := (hH8.alloc (.cells #[.int .i64 2, .int .i64 0, .slice A3 128 c3, .bool true, .slice none 0 0] 34)).alloc (.cells #[.int .i64 2, .int .i64 0, .slice A2 128 c2, .bool true, .slice none 0 0] 34)
    rw [World.size_alloc] at h
    exact h.sub (by (repeat' (first | refine sub_append ?_ ?_ | refine sub_cons ?_ ?_ | exact sub_nil)); all_goals first | (intro p hp; simp only [List.mem_append, List.mem_cons, hp, true_or, or_true]) | simp only [List.mem_append, List.mem_cons, true_or, or_true]) (fun b => by simp only [keyc_append, keyc_cons, keyc_nil]; omega)
  have hg12 := (hg11.alloc (.cells #[.int .i64 2, .int .i64 0, .slice A3 128 c3, .bool true, .slice none 0 0] 34)).alloc (.cells #[.int .i64 2, .int .i64 0, .slice A2 128 c2, .bool true, .slice none 0 0] 34)
  generalize (w7.alloc (.cells #[.int .i64 2, .int .i64 0, .slice A3 128 c3, .bool true, .slice none 0 0] 34)).alloc (.cells #[.int .i64 2, .int .i64 0, .slice A2 128 c2, .bool true, .slice none 0 0] 34) = w8 at *
  generalize w7.heap.size + 1 = g2 at *
  generalize w7.heap.size = g1 at *
  have HBX : Hid (∀ (wx : World) (X : HL), Holds wx (X ++ ((g2, (.cells #[.int .i64 2, .int .i64 0, .slice A2 128 c2, .bool true, .slice none 0 0] 34)) :: ((g1, (.cells #[.int .i64 2, .int .i64 0, .slice A3 128 c3, .bool true, .slice none 0 0] 34)) :: Q))) → (wx.cell? ⟨g1, 0, none⟩ = some (.int .i64 2) ∧ wx.cell? ⟨g1, 1, none⟩ = some (.int .i64 0) ∧ wx.cell? ⟨g1, 2, none⟩ = some (.slice A3 128 c3) ∧ wx.cell? ⟨g1, 3, none⟩ = some (.bool true) ∧ wx.cell? ⟨g1, 4, none⟩ = some (.slice none 0 0)) ∧
      wx.cell? ⟨g2, 0, none⟩ = some (.int .i64 2) ∧ wx.cell? ⟨g2, 1, none⟩ = some (.int .i64 0) ∧ wx.cell? ⟨g2, 2, none⟩ = some (.slice A2 128 c2) ∧ wx.cell? ⟨g2, 3, none⟩ = some (.bool true) ∧ wx.cell? ⟨g2, 4, none⟩ = some (.slice none 0 0)) := Lib.hid (fun wx X h => by
    have h1 := h.right
    have h2 := h1.tail
    exact ⟨⟨h2.hcell 0, h2.hcell 1, h2.hcell 2, h2.hcell 3, h2.hcell 4⟩, h1.hcell 0, h1.hcell 1, h1.hcell 2, h1.hcell 3, h1.hcell 4⟩)
  have HFT : Hid (FrBytes ((g2, (.cells #[.int .i64 2, .int .i64 0, .slice A2 128 c2, .bool true, .slice none 0 0] 34)) :: ((g1, (.cells #[.int .i64 2, .int .i64 0, .slice A3 128 c3, .bool true, .slice none 0 0] 34)) :: Q)) (.slice A3 128 c3) y) := Lib.hid (FrBytes.right (A := [_, _]) HFY.out)
  have HFO : Hid (FrBytes ((g2, (.cells #[.int .i64 2, .int .i64 0, .slice A2 128 c2, .bool true, .slice none 0 0] 34)) :: ((g1, (.cells #[.int .i64 2, .int .i64 0, .slice A3 128 c3, .bool true, .slice none 0 0] 34)) :: Q)) (.slice A2 128 c2) x) := Lib.hid (FrBytes.right (A := [_, _]) HFX.out)
  have HQ2 : Hid (∀ (wx : World) (X : HL), Holds wx (X ++ ((g2, (.cells #[.int .i64 2, .int .i64 0, .slice A2 128 c2, .bool true, .slice none 0 0] 34)) :: ((g1, (.cells #[.int .i64 2, .int .i64 0, .slice A3 128 c3, .bool true, .slice none 0 0] 34)) :: Q))) → Holds wx (allOf W)) := Lib.hid (fun wx X hx => HQ.out wx (X ++ [_, _]) (by simpa using hx))
  generalize ((g2, (.cells #[.int .i64 2, .int .i64 0, .slice A2 128 c2, .bool true, .slice none 0 0] 34)) :: ((g1, (.cells #[.int .i64 2, .int .i64 0, .slice A3 128 c3, .bool true, .slice none 0 0] 34)) :: Q)) = R at *
  obtain ⟨⟨s0, s1, s2, s3, s4⟩, t0, t1, t2, t3, t4⟩ := HBX.out w8 (H6 ++ Hc) (by simpa using hH9)
  have HCC := Lib.hid (fun (w : World) (hH : Holds w (H6 ++ (Hc ++ R))) => HCA.out (.pointer (some ⟨b1, 0, none⟩)) _ HM2.out HS2.out ⟨2, 0, y, true, []⟩ (.slice A3 128 c3) H6 (Hc ++ R) w HI6.out rfl HFT.out.right hH)
  have HCO := Lib.hid (fun (w : World) (hH : Holds w (H6 ++ (Hc ++ R))) => HCA.out (.pointer (some ⟨b1, 0, none⟩)) _ HM2.out HS2.out ⟨2, 0, x, true, []⟩ (.slice A2 128 c2) H6 (Hc ++ R) w HI6.out rfl HFO.out.right hH)
  have HCN := Lib.hid (fun (w : World) (hH : Holds w (H6 ++ (Hc ++ R))) => HCA.out (.pointer (some ⟨b1, 0, none⟩)) _ HM2.out HS2.out ⟨4, 8, [], false, []⟩ (.slice none 0 0) H6 (Hc ++ R) w HI6.out rfl (fr_nil _) hH)
  have HDC := Lib.hid (fun (w : World) (H F : HL) (hH : Holds w (Hc ++ (H ++ (F ++ R)))) => HCA.out (.pointer (some ⟨bc, 0, none⟩)) _ HM2.out HS2.out ⟨2, 0, y, true, []⟩ (.slice A3 128 c3) Hc (H ++ (F ++ R)) w HI7.out rfl HFT.out.right.right hH)
  have HDO := Lib.hid (fun (w : World) (H F : HL) (hH : Holds w (Hc ++ (H ++ (F ++ R)))) => HCA.out (.pointer (some ⟨bc, 0, none⟩)) _ HM2.out HS2.out ⟨2, 0, x, true, []⟩ (.slice A2 128 c2) Hc (H ++ (F ++ R)) w HI7.out rfl HFO.out.right.right hH)
  have HX4 := Lib.hid (fun (w : World) (F : HL) (hH : Holds w (H6 ++ (F ++ R))) => HT.out (.pointer (some ⟨b1, 0, none⟩)) _ HM2.out HS2.out ⟨3, addr, [], 0⟩ (.slice none 0 0) ⟨2, 0, y, true, []⟩ (.slice A3 128 c3) H6 (F ++ R) w HI6.out rfl rfl (fr_nil _) HFT.out.right hH)
  have HX5 := Lib.hid (fun (w : World) (H F : HL) (hi : IsIdeal (.pointer (some ⟨b1, 0, none⟩)) 128 (oneM addr [y]) H) (hH : Holds w (H ++ (F ++ R))) => HT.out (.pointer (some ⟨b1, 0, none⟩)) _ (mok_dirts HA.out (by simp)) (small_dirts (by simp)) ⟨3, addr, [], 0⟩ (.slice none 0 0) ⟨2, 0, x, true, []⟩ (.slice A2 128 c2) H (F ++ R) w hi rfl rfl (fr_nil _) HFO.out.right hH)
  have HX6 := Lib.hid (fun (w : World) (H F : HL) (hi : IsIdeal (.pointer (some ⟨b1, 0, none⟩)) 128 (oneM addr [y]) H) (hH : Holds w (H ++ (F ++ R))) => HT.out (.pointer (some ⟨b1, 0, none⟩)) _ (mok_dirts HA.out (by simp)) (small_dirts (by simp)) ⟨3, addr, [], 0⟩ (.slice none 0 0) ⟨2, 0, y, true, []⟩ (.slice A3 128 c3) H (F ++ R) w hi rfl rfl (fr_nil _) HFT.out.right hH)
  have HX7 := Lib.hid (fun (w : World) (H F : HL) (hi : IsIdeal (.pointer (some ⟨b1, 0, none⟩)) 128 (oneM addr [y]) H) (hH : Holds w (H ++ F)) => HT.out (.pointer (some ⟨b1, 0, none⟩)) _ (mok_dirts HA.out (by simp)) (small_dirts (by simp)) ⟨5, addr, [], 0⟩ (.slice none 0 0) ⟨1, 0, [], false, []⟩ (.slice none 0 0) H F w hi rfl rfl (fr_nil _) (fr_nil _) hH)
  have HX8 := Lib.hid (fun (w : World) (H F : HL) (hi : IsIdeal (.pointer (some ⟨b1, 0, none⟩)) 128 (cleanM addr y) H) (hH : Holds w (H ++ F)) => HT.out (.pointer (some ⟨b1, 0, none⟩)) _ (mok_clean HA.out) (by simp [cleanM]) ⟨3, addr, [], 0⟩ (.slice none 0 0) ⟨4, 8, [], false, []⟩ (.slice none 0 0) H F w hi rfl rfl (fr_nil _) (fr_nil _) hH)
  have HX9 := Lib.hid (fun (w : World) (H F : HL) (hi : IsIdeal (.pointer (some ⟨b1, 0, none⟩)) 128 [] H) (hH : Holds w (H ++ (F ++ R))) => HCA.out (.pointer (some ⟨b1, 0, none⟩)) _ MOk.nil (by simp) ⟨2, 0, y, true, []⟩ (.slice A3 128 c3) H (F ++ R) w hi rfl HFT.out.right hH)
  rw [f_got (by simp) (by simp)] at HCC HCO HDC HDO HX4 HX6
  rw [f_none (by simp)] at HCN
  rw [f_other (by simp) (by simp; exact HXY.out)] at HX5
  rw [f_wash] at HX7
  rw [f_gone] at HX8
  rw [f_empty] at HX9
  dsimp only at HCC HCO HCN HDC HDO HX4 HX5 HX6 HX7 HX8 HX9
  have HY1 := Lib.hid (HCC.out w8 hH9)
  clear HT HCA HFX HFY HFT HFO HQ hH8 hH9 HM2 HS2 HI6 HI7 HCC
  refine HY1.out.mono ?_
  rintro e w9 ⟨rfl, hH10, hg13⟩
  have hg14 := hg12.trans hg13
  have HY2 := Lib.hid (HCO.out w9 hH10)
  clear HY1 HCO hg12 hg13 s0 s1 s2 s3 s4 t0 t1 t2 t3 t4
  obtain ⟨⟨s0, s1, s2, s3, s4⟩, t0, t1, t2, t3, t4⟩ := HBX.out w9 (H6 ++ Hc) (by simpa using hH10)
  clear hH10
  go_wp2_with fail
  refine HY2.out.mono ?_
  rintro e w10 ⟨rfl, hH11, hg15⟩
  have hg16 := hg14.trans hg15
  have HY3 := Lib.hid (HCN.out w10 hH11)
  clear HY2 HCN hg14 hg15 s0 s1 s2 s3 s4 t0 t1 t2 t3 t4 hH11
  go_wp2_with fail
  refine HY3.out.mono ?_
  rintro e w11 ⟨rfl, hH12, hg17⟩
  have hg18 := hg16.trans hg17
  have HH12 := Lib.hid hH12
  clear HY3 hg16 hg17
  have hH13 : Holds (w11.alloc (.cells #[.int .i64 3, .int .u64 addr, .slice none 0 0, .int .i64 0] 31)) (H6 ++ ((Hc ++ [(w11.heap.size, (.cells #[.int .i64 3, .int .u64 addr, .slice none 0 0, .int .i64 0] 31))]) ++ R)) := by
    have h := hH12.alloc (.cells #[.int .i64 3, .int .u64 addr, .slice none 0 0, .int .i64 0] 31)
    exact h.sub (by (repeat' (first | refine sub_append ?_ ?_ | refine sub_cons ?_ ?_ | exact sub_nil)); all_goals first | (intro p hp; simp only [List.mem_append, List.mem_cons, hp, true_or, or_true]) | simp only [List.mem_append, List.mem_cons, true_or, or_true]) (fun b => by simp only [keyc_append, keyc_cons, keyc_nil]; omega)
  have HFE : Hid (∀ (wx : World) (X : HL), Holds wx (X ++ ((Hc ++ [(w11.heap.size, (.cells #[.int .i64 3, .int .u64 addr, .slice none 0 0, .int .i64 0] 31))]) ++ R)) → (wx.cell? ⟨w11.heap.size, 0, none⟩ = some (.int .i64 3) ∧ wx.cell? ⟨w11.heap.size, 1, none⟩ = some (.int .u64 addr) ∧ wx.cell? ⟨w11.heap.size, 2, none⟩ = some (.slice none 0 0) ∧ wx.cell? ⟨w11.heap.size, 3, none⟩ = some (.int .i64 0)) ∧
      (wx.cell? ⟨g1, 0, none⟩ = some (.int .i64 2) ∧ wx.cell? ⟨g1, 1, none⟩ = some (.int .i64 0) ∧ wx.cell? ⟨g1, 2, none⟩ = some (.slice A3 128 c3) ∧ wx.cell? ⟨g1, 3, none⟩ = some (.bool true) ∧ wx.cell? ⟨g1, 4, none⟩ = some (.slice none 0 0)) ∧
      wx.cell? ⟨g2, 0, none⟩ = some (.int .i64 2) ∧ wx.cell? ⟨g2, 1, none⟩ = some (.int .i64 0) ∧ wx.cell? ⟨g2, 2, none⟩ = some (.slice A2 128 c2) ∧ wx.cell? ⟨g2, 3, none⟩ = some (.bool true) ∧ wx.cell? ⟨g2, 4, none⟩ = some (.slice none 0 0)) := Lib.hid (fun wx X h => by
    have h1 : Holds wx ((w11.heap.size, (.cells #[.int .i64 3, .int .u64 addr, .slice none 0 0, .int .i64 0] 31)) :: R) := (show Holds wx (X ++ (Hc ++ ((w11.heap.size, (.cells #[.int .i64 3, .int .u64 addr, .slice none 0 0, .int .i64 0] 31)) :: R))) by simpa using h).right.right
    exact ⟨⟨h1.hcell 0, h1.hcell 1, h1.hcell 2, h1.hcell 3⟩, HBX.out wx [_] h1⟩)
  have hg19 := hg18.alloc (.cells #[.int .i64 3, .int .u64 addr, .slice none 0 0, .int .i64 0] 31)
  obtain ⟨⟨r0, r1, r2, r3⟩, ⟨s0, s1, s2, s3, s4⟩, t0, t1, t2, t3, t4⟩ := HFE.out _ _ hH13
  have HY4 := Lib.hid (HX4.out _ _ hH13)
  clear hg18 HBX hH12 hH13 HH12 HX4
  go_wp2_with fail
  refine HY4.out.mono ?_
  generalize w11.alloc (.cells #[.int .i64 3, .int .u64 addr, .slice none 0 0, .int .i64 0] 31) = w12 at *
  generalize w11.heap.size = g3 at *
  rintro e w13 ⟨rfl, H13, hi13, hH14, hg20⟩
  have hg21 := hg19.trans hg20
  have HY5 := Lib.hid (HX5.out _ _ _ hi13 hH14)
  clear HY4 HX5 hi13 hg19 hg20 r0 r1 r2 r3 s0 s1 s2 s3 s4 t0 t1 t2 t3 t4
  obtain ⟨⟨r0, r1, r2, r3⟩, ⟨s0, s1, s2, s3, s4⟩, t0, t1, t2, t3, t4⟩ := HFE.out _ _ hH14
  clear hH14
  go_wp2_with fail
  refine HY5.out.mono ?_
  rintro e w14 ⟨rfl, H14, hi14, hH15, hg22⟩
  have hg23 := hg21.trans hg22
  have HY6 := Lib.hid (HX6.out _ _ _ hi14 hH15)
  clear HY5 HX6 hi14 hg21 hg22 r0 r1 r2 r3 s0 s1 s2 s3 s4 t0 t1 t2 t3 t4
  obtain ⟨⟨r0, r1, r2, r3⟩, ⟨s0, s1, s2, s3, s4⟩, t0, t1, t2, t3, t4⟩ := HFE.out _ _ hH15
  clear hH15
  go_wp2_with fail
  refine HY6.out.mono ?_
  rintro e w15 ⟨rfl, H15, hi15, hH16, hg24⟩
  have hg25 := hg23.trans hg24
  have HI15 := Lib.hid hi15
  have hH17 : Holds w15 (Hc ++ (H15 ++ ([(g3, (.cells #[.int .i64 3, .int .u64 addr, .slice none 0 0, .int .i64 0] 31))] ++ R))) := hH16.sub (by (repeat' (first | refine sub_append ?_ ?_ | refine sub_cons ?_ ?_ | exact sub_nil)); all_goals first | (intro p hp; simp only [List.mem_append, List.mem_cons, hp, true_or, or_true]) | simp only [List.mem_append, List.mem_cons, true_or, or_true]) (fun b => by simp only [keyc_append, keyc_cons, keyc_nil]; omega)
  have HY7 := Lib.hid (HDO.out _ _ _ hH17)
  clear HY6 HDO hi15 hg23 hg24 r0 r1 r2 r3 s0 s1 s2 s3 s4 t0 t1 t2 t3 t4
  obtain ⟨⟨r0, r1, r2, r3⟩, ⟨s0, s1, s2, s3, s4⟩, t0, t1, t2, t3, t4⟩ := HFE.out _ _ hH16
  clear hH16 hH17
  go_wp2_with fail
  refine HY7.out.mono ?_
  rintro e w16 ⟨rfl, hH18, hg26⟩
  have hg27 := hg25.trans hg26
  have HY8 := Lib.hid (HDC.out _ _ _ hH18)
  have hH19 : Holds w16 (H15 ++ ((Hc ++ [(g3, (.cells #[.int .i64 3, .int .u64 addr, .slice none 0 0, .int .i64 0] 31))]) ++ R)) := hH18.sub (by (repeat' (first | refine sub_append ?_ ?_ | refine sub_cons ?_ ?_ | exact sub_nil)); all_goals first | (intro p hp; simp only [List.mem_append, List.mem_cons, hp, true_or, or_true]) | simp only [List.mem_append, List.mem_cons, true_or, or_true]) (fun b => by simp only [keyc_append, keyc_cons, keyc_nil]; omega)
  clear HY7 HDC hg25 hg26 r0 r1 r2 r3 s0 s1 s2 s3 s4 t0 t1 t2 t3 t4
  obtain ⟨⟨r0, r1, r2, r3⟩, ⟨s0, s1, s2, s3, s4⟩, t0, t1, t2, t3, t4⟩ := HFE.out _ _ hH19
  clear hH18 hH19
  go_wp2_with fail
  refine HY8.out.mono ?_
  rintro e w17 ⟨rfl, hH20, hg28⟩
  have hg29 := hg27.trans hg28
  have hH21 : Holds w17 (H15 ++ ((Hc ++ [(g3, (.cells #[.int .i64 3, .int .u64 addr, .slice none 0 0, .int .i64 0] 31))]) ++ R)) := hH20.sub (by (repeat' (first | refine sub_append ?_ ?_ | refine sub_cons ?_ ?_ | exact sub_nil)); all_goals first | (intro p hp; simp only [List.mem_append, List.mem_cons, hp, true_or, or_true]) | simp only [List.mem_append, List.mem_cons, true_or, or_true]) (fun b => by simp only [keyc_append, keyc_cons, keyc_nil]; omega)
  have HY9 := Lib.hid (HX7.out _ _ _ HI15.out hH21)
  clear HY8 HX7 hg27 hg28 r0 r1 r2 r3 s0 s1 s2 s3 s4 t0 t1 t2 t3 t4 hH20 hH21 HI15
  go_wp2_with fail
  refine HY9.out.mono ?_
  rintro e w18 ⟨rfl, H18, hi18, hH22, hg30⟩
  have hg31 := hg29.trans hg30
  have HY10 := Lib.hid (HX8.out _ _ _ hi18 hH22)
  clear HY9 HX8 hg29 hg30 hi18
  obtain ⟨⟨r0, r1, r2, r3⟩, ⟨s0, s1, s2, s3, s4⟩, t0, t1, t2, t3, t4⟩ := HFE.out _ _ hH22
  clear hH22
  go_wp2_with fail
  refine HY10.out.mono ?_
  rintro e w19 ⟨rfl, H19, hi19, hH23, hg32⟩
  have hg33 := hg31.trans hg32
  have HY11 := Lib.hid (HX9.out _ _ _ hi19 hH23)
  clear HY10 HX9 hg31 hg32 hi19 r0 r1 r2 r3 s0 s1 s2 s3 s4 t0 t1 t2 t3 t4
  obtain ⟨⟨r0, r1, r2, r3⟩, ⟨s0, s1, s2, s3, s4⟩, t0, t1, t2, t3, t4⟩ := HFE.out _ _ hH23
  clear hH23
  go_wp2_with fail
  refine HY11.out.mono ?_
  rintro e w20 ⟨rfl, hH24, hg34⟩
  have hg35 := hg33.trans hg34
  have HY12 := Lib.hid (HAW.out _ _ hH24)
  clear HY11 hH24 hg33 hg34 r0 r1 r2 r3 s0 s1 s2 s3 s4 t0 t1 t2 t3 t4
  go_wp2_with fail
  refine HY12.out.mono ?_
  rintro e w21 ⟨rfl, hH25, hg36⟩
  go_wp2_with fail
  go_ret
  exact ⟨rfl, HQ2.out _ (H19 ++ (Hc ++ [(g3, (.cells #[.int .i64 3, .int .u64 addr, .slice none 0 0, .int .i64 0] 31))])) (by simpa using hH25), hg35.trans hg36⟩
end Go.Proofs.Ytinfbpldgobmfaa
