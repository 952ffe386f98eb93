/-
  Chapter 18: IdealNone.
-/
import Derived.Test.YtinfbpldgobmfaaL18
namespace Go.Proofs.Ytinfbpldgobmfaa
open Go.RowKit
set_option linter.unusedSimpArgs false
set_option linter.unusedVariables false

theorem idcopy_nil (w : World) : Calls Try.prog 17 #[.pointer none] w fun e w' => e = .returned (.pointer none) ∧ w = w' := by
  go_enter Try.func17, Try.ntmps17
  go_wp2_with fail
  go_ret
  exact ⟨rfl, rfl⟩
set_option maxRecDepth 20000 in
theorem idcan_nil (a : Int) (r : RV) (rdv av : Value) (w : World) (Fr : HL) (hH : Holds w Fr) : Calls Try.prog 18 #[.pointer none, .int .u64 a, r.agg rdv av] w (RetFr (.bool false) w Fr) := by
  have HC := Lib.hid (fun w => idcopy_nil w)
  have HT := Lib.hid (fun (wx : World) (F : HL) (h : Holds wx F) => idtake_nil ⟨3, a, [], 0⟩ (.slice none 0 0) r rdv av wx F h)
  obtain ⟨rk, rc, rd, y, z⟩ := r
  simp only [OV.agg, RV.agg] at *
  have hH1 := hH.alloc (.cells #[.int .i64 rk, .int .i64 rc, rdv, .bool y, av] 34)
  have hg1 := (Grew.refl w).alloc (.cells #[.int .i64 rk, .int .i64 rc, rdv, .bool y, av] 34)
  have HS : Hid (∀ wx : World, Holds wx ((w.heap.size, .cells #[.int .i64 rk, .int .i64 rc, rdv, .bool y, av] 34) :: Fr) → wx.cell? ⟨w.heap.size, 0, none⟩ = some (.int .i64 rk) ∧ wx.cell? ⟨w.heap.size, 1, none⟩ = some (.int .i64 rc) ∧ wx.cell? ⟨w.heap.size, 2, none⟩ = some rdv ∧ wx.cell? ⟨w.heap.size, 3, none⟩ = some (.bool y) ∧ wx.cell? ⟨w.heap.size, 4, none⟩ = some av) := Lib.hid (fun wx h => ⟨h.hcell 0, h.hcell 1, h.hcell 2, h.hcell 3, h.hcell 4⟩)
  go_enter Try.func18, Try.ntmps18
  go_upto_region 1 with fail
  generalize w.alloc (.cells #[.int .i64 rk, .int .i64 rc, rdv, .bool y, av] 34) = w0 at *
  generalize w.heap.size = g at *
  refine Z_begin (fun wx => wx.cell? ⟨g, 0, none⟩ = some (.int .i64 rk) ∧ wx.cell? ⟨g, 1, none⟩ = some (.int .i64 rc) ∧ wx.cell? ⟨g, 2, none⟩ = some rdv ∧ wx.cell? ⟨g, 3, none⟩ = some (.bool y) ∧ wx.cell? ⟨g, 4, none⟩ = some av) 7 (by kernel_rfl) (fun w1 hd => HS.out _ (hH1.dr hd)) (fun w1 hd hs => ?_)
  have hH2 := hH1.dr hd; have hG2 := hg1.trans (Grew.dr hd); clear hd hH1 hg1
  refine Z_takeD 0 (some 7) (v := ?_) rfl rfl (by kernel_rfl) (fun _ _ _ h => h) (by rfl) hs ?_ ?_
  rotate_left
  · intro wx hx; obtain ⟨s0, s1, s2, s3, s4⟩ := hx; go_simp; try with_reducible rfl
  simp only [Act.put, List.setIfInBounds_toArray, List.set_cons_succ, List.set_cons_zero]
  refine Z_takeD 2 (some 9) (v := ?_) rfl rfl (by kernel_rfl) (fun _ _ _ h => h) (by rfl) hs ?_ ?_
  rotate_left
  · intro wx hx; obtain ⟨s0, s1, s2, s3, s4⟩ := hx; go_simp; try with_reducible rfl
  simp only [Act.put, List.setIfInBounds_toArray, List.set_cons_succ, List.set_cons_zero]
  refine Z_takeD 3 (some 10) (v := ?_) rfl rfl (by kernel_rfl) (fun _ _ _ h => h) (by rfl) hs ?_ ?_
  rotate_left
  · intro wx hx; obtain ⟨s0, s1, s2, s3, s4⟩ := hx; go_simp; try with_reducible rfl
  simp only [Act.put, List.setIfInBounds_toArray, List.set_cons_succ, List.set_cons_zero]
  refine Z_takeD 4 (some 11) (v := ?_) rfl rfl (by kernel_rfl) (fun _ _ _ h => h) (by rfl) hs ?_ ?_
  rotate_left
  · intro wx hx; obtain ⟨s0, s1, s2, s3, s4⟩ := hx; go_simp; try with_reducible rfl
  simp only [Act.put, List.setIfInBounds_toArray, List.set_cons_succ, List.set_cons_zero]
  refine Z_mid 1 rfl (by kernel_rfl) (fun K hK => ?_)
  have ⟨s0, s1, s2, s3, s4⟩ := hs
  go_simp; refine (HC.out w1).mono ?_; rintro e w2 ⟨rfl, rfl⟩   -- call w
  clear s0 s1 s2 s3 s4
  refine hK _ _ (HS.out _ hH2) (fun hs2 => ?_); clear hK K hs; have hs := hs2; clear hs2
  refine Z_mid 5 rfl (by kernel_rfl) (fun K hK => ?_)
  have ⟨s0, s1, s2, s3, s4⟩ := hs
  go_simp; refine (HT.out w1 _ hH2).mono ?_; rintro e w3 ⟨rfl, hH3, hg3⟩   -- call w
  clear s0 s1 s2 s3 s4
  refine hK _ _ (HS.out _ hH3) (fun hs2 => ?_); clear hK K hs; have hs := hs2; clear hs2
  refine Z_takeD 6 (some 6) (v := ?_) rfl rfl (by kernel_rfl) (fun _ _ _ h => h) (by rfl) hs ?_ ?_
  rotate_left
  · intro wx hx; obtain ⟨s0, s1, s2, s3, s4⟩ := hx; go_simp; try with_reducible rfl
  simp only [Act.put, List.setIfInBounds_toArray, List.set_cons_succ, List.set_cons_zero]
  refine Z_done (by kernel_rfl) ?_ _
  go_wp2_with fail
  go_ret
  exact ⟨rfl, hH3.tail, hG2.trans hg3⟩
set_option maxRecDepth 20000 in
set_option maxHeartbeats 2000000 in
theorem none18_walk (o : OV) (A1 : Option Addr) (n1 c1 : Nat) (r : RV) (A2 : Option Addr) (n2 c2 : Nat) (A3 : Option Addr) (n3 c3 : Nat) (W : World) : Calls Try.prog 6 #[o.agg (.slice A1 n1 c1), r.agg (.slice A2 n2 c2) (.slice A3 n3 c3)] W (RetFr (.bool true) W (allOf W)) := by
  have hH := holds_all W
  have HMY := Lib.hid (fun wx => idmay_nil o.k o.a (.slice A1 n1 c1) o.m wx)
  have HTK := Lib.hid (fun (wx : World) (F : HL) (h : Holds wx F) => idtake_nil o (.slice A1 n1 c1) r (.slice A2 n2 c2) (.slice A3 n3 c3) wx F h)
  have HCN := Lib.hid (fun (wx : World) (F : HL) (h : Holds wx F) => idcan_nil o.a r (.slice A2 n2 c2) (.slice A3 n3 c3) wx F h)
  have HAW := Lib.hid (fun (wx : World) (F : HL) (h : Holds wx F) => awake18_any wx F h)
  have HDI := Lib.hid (fun wx => iddirty_nil wx)
  have HAD := Lib.hid (fun wx => idaddrs_nil wx)
  have HCP := Lib.hid (fun wx => idcopy_nil wx)
  obtain ⟨k, a, d, m⟩ := o
  obtain ⟨rk, rc, rd, y, z⟩ := r
  simp only [OV.agg, RV.agg] at *
  have hH1 := (hH.alloc (.cells #[.int .i64 k, .int .u64 a, .slice A1 n1 c1, .int .i64 m] 31)).alloc (.cells #[.int .i64 rk, .int .i64 rc, .slice A2 n2 c2, .bool y, .slice A3 n3 c3] 34)
  have hg1 := ((Grew.refl W).alloc (.cells #[.int .i64 k, .int .u64 a, .slice A1 n1 c1, .int .i64 m] 31)).alloc (.cells #[.int .i64 rk, .int .i64 rc, .slice A2 n2 c2, .bool y, .slice A3 n3 c3] 34)
  rw [World.size_alloc] at hH1
  have HS : Hid (∀ wx : World, Holds wx ((W.heap.size + 1, .cells #[.int .i64 rk, .int .i64 rc, .slice A2 n2 c2, .bool y, .slice A3 n3 c3] 34) :: ((W.heap.size, .cells #[.int .i64 k, .int .u64 a, .slice A1 n1 c1, .int .i64 m] 31) :: allOf W)) → (wx.cell? ⟨W.heap.size, 0, none⟩ = some (.int .i64 k) ∧ wx.cell? ⟨W.heap.size, 1, none⟩ = some (.int .u64 a) ∧ wx.cell? ⟨W.heap.size, 2, none⟩ = some (.slice A1 n1 c1) ∧ wx.cell? ⟨W.heap.size, 3, none⟩ = some (.int .i64 m)) ∧
      wx.cell? ⟨W.heap.size + 1, 0, none⟩ = some (.int .i64 rk) ∧ wx.cell? ⟨W.heap.size + 1, 1, none⟩ = some (.int .i64 rc) ∧ wx.cell? ⟨W.heap.size + 1, 2, none⟩ = some (.slice A2 n2 c2) ∧ wx.cell? ⟨W.heap.size + 1, 3, none⟩ = some (.bool y) ∧ wx.cell? ⟨W.heap.size + 1, 4, none⟩ = some (.slice A3 n3 c3)) := Lib.hid (fun wx h =>
    ⟨⟨h.tail.hcell 0, h.tail.hcell 1, h.tail.hcell 2, h.tail.hcell 3⟩, h.hcell 0, h.hcell 1, h.hcell 2, h.hcell 3, h.hcell 4⟩)
  obtain ⟨⟨q0, q1, q2, q3⟩, p0, p1, p2, p3, p4⟩ := HS.out _ hH1
  have HW0 := Lib.hid (HAW.out _ _ hH1)
  by_cases h1 : 300 < n1
  · clear hH1 HMY HTK HCN HDI HAD HCP
    go_enter Try.func6, Try.ntmps6
    go_wp2_with fail
    refine HW0.out.mono ?_
    rintro e w2 ⟨rfl, hH2, hg2⟩
    go_wp2_with fail
    go_ret
    exact ⟨rfl, hH2.tail.tail, hg1.trans hg2⟩
  by_cases h2 : 300 < n2
  · clear hH1 HMY HTK HCN HDI HAD HCP
    go_enter Try.func6, Try.ntmps6
    go_wp2_with fail
    refine HW0.out.mono ?_
    rintro e w2 ⟨rfl, hH2, hg2⟩
    go_wp2_with fail
    go_ret
    exact ⟨rfl, hH2.tail.tail, hg1.trans hg2⟩
  by_cases h3 : 80 < n3
  · clear hH1 HMY HTK HCN HDI HAD HCP
    go_enter Try.func6, Try.ntmps6
    go_wp2_with fail
    refine HW0.out.mono ?_
    rintro e w2 ⟨rfl, hH2, hg2⟩
    go_wp2_with fail
    go_ret
    exact ⟨rfl, hH2.tail.tail, hg1.trans hg2⟩
  clear HW0
  go_enter Try.func6, Try.ntmps6
  go_wp2_with fail
  refine (HDI.out _).mono ?_
  rintro e w2 ⟨rfl, rfl⟩
  generalize (W.alloc (.cells #[.int .i64 k, .int .u64 a, .slice A1 n1 c1, .int .i64 m] 31)).alloc (.cells #[.int .i64 rk, .int .i64 rc, .slice A2 n2 c2, .bool y, .slice A3 n3 c3] 34) = w2 at *
  generalize W.heap.size = g at *
  have HH1 := Lib.hid hH1
  clear HDI hH1
  go_wp2_with fail
  refine (HMY.out _).mono ?_
  rintro e w3 ⟨rfl, rfl⟩
  have hH3 := HH1.out.alloc' (.cells #[.int .i64 k, .int .u64 a, .slice A1 n1 c1, .int .i64 m] 31)
  have hg3 := hg1.alloc (.cells #[.int .i64 k, .int .u64 a, .slice A1 n1 c1, .int .i64 m] 31)
  generalize w2.alloc (.cells #[.int .i64 k, .int .u64 a, .slice A1 n1 c1, .int .i64 m] 31) = w3 at *
  clear HMY HH1 hg1 q0 q1 q2 q3 p0 p1 p2 p3 p4
  obtain ⟨⟨q0, q1, q2, q3⟩, p0, p1, p2, p3, p4⟩ := HS.out _ hH3
  have HC3 := Lib.hid (HTK.out _ _ hH3)
  clear HTK hH3
  go_wp2_with fail
  refine HC3.out.mono ?_
  rintro e w4 ⟨rfl, hH4, hg4⟩
  have hg5 := hg3.trans hg4
  clear HC3 hg3 hg4 q0 q1 q2 q3 p0 p1 p2 p3 p4
  obtain ⟨⟨q0, q1, q2, q3⟩, p0, p1, p2, p3, p4⟩ := HS.out _ hH4
  have HC4 := Lib.hid (HCN.out _ _ hH4)
  clear HCN hH4
  go_wp2_with fail
  refine HC4.out.mono ?_
  rintro e w5 ⟨rfl, hH5, hg6⟩
  have hg7 := hg5.trans hg6
  have HW5 := Lib.hid (HAW.out _ _ hH5)
  clear HC4 hg5 hg6 hH5 q0 q1 q2 q3 p0 p1 p2 p3 p4
  go_wp2_with fail
  refine (HAD.out _).mono ?_
  rintro e w6 ⟨rfl, rfl⟩
  go_wp2_with fail
  refine (HCP.out _).mono ?_
  rintro e w6 ⟨rfl, rfl⟩
  go_wp2_with fail
  refine HW5.out.mono ?_
  rintro e w7 ⟨rfl, hH7, hg8⟩
  go_wp2_with fail
  go_ret
  exact ⟨rfl, hH7.tail.tail, hg7.trans hg8⟩
end Go.Proofs.Ytinfbpldgobmfaa
