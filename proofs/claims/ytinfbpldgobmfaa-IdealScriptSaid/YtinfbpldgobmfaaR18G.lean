/-
  Chapter 18's own answer: Take.
-/
import Derived.Test.YtinfbpldgobmfaaR18F
namespace Go.Proofs.Ytinfbpldgobmfaa
open Go.RowKit
set_option linter.unusedSimpArgs false
set_option linter.unusedVariables false

def takeP (size : Int) (P : List PV) (o : OV) (r : RV) : Bool × List PV :=
  if r.fits = false then (false, P) else if mayB size o.k o.d.length o.m = false then (decide (r.k = 4 ∧ r.c = 2), P)
  else if r.k = 4 then refP P o r.c else if r.k = 1 then doneP P o else if r.k = 2 then (if o.k = 3 then gotP P o.a r.d r.y else (false, P)) else (if o.k = 6 then listP P o r.z else (false, P))
theorem FrWs.sl {Hp Fr : HL} {v : Value} {z : List Int} {w : World} (h : FrWs Hp v z) (hH : Holds w (Hp ++ Fr)) : ∃ A c, v = .slice A z.length c := by obtain ⟨_, A, c, h, _⟩ := h w hH.left; exact ⟨A, c, h⟩
set_option maxRecDepth 20000 in
set_option maxHeartbeats 8000000 in
theorem r18take_any (b : Nat) (size : Int) (pv : Value) (P : List PV) (o : OV) (dv : Value) (r : RV) (rdv av : Value) (Hp Fr : HL) (w : World) (hl : FrPlaces Hp pv P) (hs : SmP P) (hd : FrBytes Hp dv o.d) (hdl : o.d.length ≤ 1000) (hrd : FrBytes Hp rdv r.d) (hav : FrWs Hp av r.z) (hH : Holds w ((b, .cells #[.int .i64 size, pv] 76) :: (Hp ++ Fr))) :
    Calls Try.prog 23 #[.pointer (some ⟨b, 0, none⟩), o.agg dv, r.agg rdv av] w (RetR18 b size (takeP size P o r).2 (.bool (takeP size P o r).1) w Hp Fr) := by
  obtain ⟨A, c, hv⟩ := hd.sl hH.tail
  subst hv
  obtain ⟨A1, c1, hv1⟩ := hrd.sl hH.tail
  subst hv1
  obtain ⟨A2, c2, hv2⟩ := hav.sl hH.tail
  subst hv2
  have HRP := Lib.hid (fun wx => r18plain_any r.k r.c A1 r.d.length c1 r.y A2 r.z.length c2 wx)
  have HMY := Lib.hid (fun wx h => r18may_any b size o.k o.a A o.d.length c o.m wx h)
  have HDN := Lib.hid (fun (wx : World) (F : HL) (h2 : Holds wx ((b, .cells #[.int .i64 size, pv] 76) :: (Hp ++ F))) => r18done_any b size pv P o (.slice A o.d.length c) Hp F wx hl hs hd hdl h2)
  have HGT := Lib.hid (fun (wx : World) (F : HL) (h2 : Holds wx ((b, .cells #[.int .i64 size, pv] 76) :: (Hp ++ F))) => r18got_any b size pv P o.a r (.slice A1 r.d.length c1) A2 c2 Hp F wx hl hs hrd h2)
  have HRF := Lib.hid (fun (wx : World) (F : HL) (h2 : Holds wx ((b, .cells #[.int .i64 size, pv] 76) :: (Hp ++ F))) => r18ref_any b size pv P o (.slice A o.d.length c) r.c Hp F wx hl hs hd hdl h2)
  have HLI := Lib.hid (fun (wx : World) (F : HL) (h2 : Holds wx ((b, .cells #[.int .i64 size, pv] 76) :: (Hp ++ F))) => r18listed_any b size pv P o (.slice A o.d.length c) (.slice A2 r.z.length c2) r.z Hp F wx hl hs hd hav h2)
  have HTK := Lib.hid (show takeP size P o r = if r.fits = false then (false, P) else if mayB size o.k o.d.length o.m = false then (decide (r.k = 4 ∧ r.c = 2), P)
  else if r.k = 4 then refP P o r.c else if r.k = 1 then doneP P o else if r.k = 2 then (if o.k = 3 then gotP P o.a r.d r.y else (false, P)) else (if o.k = 6 then listP P o r.z else (false, P)) from rfl)
  change Hid (∀ wx, Calls Try.prog 42 #[.agg #[.int .i64 r.k, .int .i64 r.c, .slice A1 r.d.length c1, .bool r.y, .slice A2 r.z.length c2]] wx fun e w' => e = .returned (.bool r.fits) ∧ w' = wx.alloc (.cells #[.int .i64 r.k, .int .i64 r.c, .slice A1 r.d.length c1, .bool r.y, .slice A2 r.z.length c2] 34)) at HRP
  generalize takeP size P o r = R at *
  generalize hfits : r.fits = fits at *
  generalize hmy : mayB size o.k o.d.length o.m = may at *
  have hH1 := (hH.alloc (.cells #[.int .i64 o.k, .int .u64 o.a, .slice A o.d.length c, .int .i64 o.m] 31)).alloc (.cells #[.int .i64 r.k, .int .i64 r.c, .slice A1 r.d.length c1, .bool r.y, .slice A2 r.z.length c2] 34)
  have hg1 := ((Grew.refl w).alloc (.cells #[.int .i64 o.k, .int .u64 o.a, .slice A o.d.length c, .int .i64 o.m] 31)).alloc (.cells #[.int .i64 r.k, .int .i64 r.c, .slice A1 r.d.length c1, .bool r.y, .slice A2 r.z.length c2] 34)
  rw [World.size_alloc] at hH1
  have HL0 := Lib.hid hl
  clear hl hs hd hdl hrd hav hH hmy hfits
  obtain ⟨k, a, d, m⟩ := o
  obtain ⟨rk, rc, rd, y, z⟩ := r
  simp only [OV.agg, RV.agg] at *
  have hH2 : Holds ((w.alloc (.cells #[.int .i64 k, .int .u64 a, .slice A d.length c, .int .i64 m] 31)).alloc (.cells #[.int .i64 rk, .int .i64 rc, .slice A1 rd.length c1, .bool y, .slice A2 z.length c2] 34)) ((b, .cells #[.int .i64 size, pv] 76) :: (Hp ++ ([(w.heap.size, .cells #[.int .i64 k, .int .u64 a, .slice A d.length c, .int .i64 m] 31), (w.heap.size + 1, .cells #[.int .i64 rk, .int .i64 rc, .slice A1 rd.length c1, .bool y, .slice A2 z.length c2] 34)] ++ Fr))) := hH1.sub (by (repeat' (first | refine sub_append ?_ ?_ | refine sub_cons ?_ ?_ | exact sub_nil)); all_goals first | (intro p hp; simp only [List.mem_append, List.mem_cons, hp, true_or, or_true]) | simp only [List.mem_append, List.mem_cons, true_or, or_true]) (fun b => by simp only [keyc_append, keyc_cons, keyc_nil]; omega)
  clear hH1
  have HB : Hid (∀ (wx : World) (X F : HL), Holds wx (X ++ ([(w.heap.size, (.cells #[.int .i64 k, .int .u64 a, .slice A d.length c, .int .i64 m] 31)), (w.heap.size + 1, (.cells #[.int .i64 rk, .int .i64 rc, .slice A1 rd.length c1, .bool y, .slice A2 z.length c2] 34))] ++ F)) →
      (wx.cell? ⟨w.heap.size, 0, none⟩ = some (.int .i64 k) ∧ wx.cell? ⟨w.heap.size, 1, none⟩ = some (.int .u64 a) ∧ wx.cell? ⟨w.heap.size, 2, none⟩ = some (.slice A d.length c) ∧ wx.cell? ⟨w.heap.size, 3, none⟩ = some (.int .i64 m)) ∧
      wx.cell? ⟨w.heap.size + 1, 0, none⟩ = some (.int .i64 rk) ∧ wx.cell? ⟨w.heap.size + 1, 1, none⟩ = some (.int .i64 rc) ∧ wx.cell? ⟨w.heap.size + 1, 2, none⟩ = some (.slice A1 rd.length c1) ∧ wx.cell? ⟨w.heap.size + 1, 3, none⟩ = some (.bool y) ∧ wx.cell? ⟨w.heap.size + 1, 4, none⟩ = some (.slice A2 z.length c2)) := Lib.hid (fun wx X F hX =>
    ⟨⟨hX.right.hcell 0, hX.right.hcell 1, hX.right.hcell 2, hX.right.hcell 3⟩, hX.right.tail.hcell 0, hX.right.tail.hcell 1, hX.right.tail.hcell 2, hX.right.tail.hcell 3, hX.right.tail.hcell 4⟩)
  have HOUT : Hid (∀ (v : Bool) (wx : World), Holds wx ((b, .cells #[.int .i64 size, pv] 76) :: (Hp ++ ([(w.heap.size, (.cells #[.int .i64 k, .int .u64 a, .slice A d.length c, .int .i64 m] 31)), (w.heap.size + 1, (.cells #[.int .i64 rk, .int .i64 rc, .slice A1 rd.length c1, .bool y, .slice A2 z.length c2] 34))] ++ Fr))) → Grew w wx → RetR18 b size P (.bool v) w Hp Fr (.returned (.bool v)) wx) := Lib.hid (fun v wx h hg => by
    have h2 : Holds wx (((b, .cells #[.int .i64 size, pv] 76) :: Hp) ++ ([(w.heap.size, (.cells #[.int .i64 k, .int .u64 a, .slice A d.length c, .int .i64 m] 31)), (w.heap.size + 1, (.cells #[.int .i64 rk, .int .i64 rc, .slice A1 rd.length c1, .bool y, .slice A2 z.length c2] 34))] ++ Fr)) := h
    exact ⟨rfl, _, [], HL0.out, h2.mid, hg⟩)
  obtain ⟨⟨q0, q1, q2, q3⟩, p0, p1, p2, p3, p4⟩ := HB.out _ ((b, .cells #[.int .i64 size, pv] 76) :: Hp) Fr hH2
  go_enter Try.func23, Try.ntmps23
  go_wp2_with fail
  refine (HRP.out _).mono ?_
  rintro e w3 ⟨rfl, rfl⟩
  have hH3 := hH2.alloc' (.cells #[.int .i64 rk, .int .i64 rc, .slice A1 rd.length c1, .bool y, .slice A2 z.length c2] 34)
  have hg3 := hg1.alloc (.cells #[.int .i64 rk, .int .i64 rc, .slice A1 rd.length c1, .bool y, .slice A2 z.length c2] 34)
  clear hH2 hg1 HRP q0 q1 q2 q3 p0 p1 p2 p3 p4
  generalize ((w.alloc (.cells #[.int .i64 k, .int .u64 a, .slice A d.length c, .int .i64 m] 31)).alloc (.cells #[.int .i64 rk, .int .i64 rc, .slice A1 rd.length c1, .bool y, .slice A2 z.length c2] 34)).alloc (.cells #[.int .i64 rk, .int .i64 rc, .slice A1 rd.length c1, .bool y, .slice A2 z.length c2] 34) = w3 at *
  generalize w.heap.size + 1 = g5 at *
  generalize w.heap.size = g4 at *
  obtain ⟨⟨q0, q1, q2, q3⟩, p0, p1, p2, p3, p4⟩ := HB.out _ ((b, .cells #[.int .i64 size, pv] 76) :: Hp) Fr hH3
  have hsz := hH3.hcell 0
  cases fits with
  | false =>
    have HR := Lib.hid (HTK.out.trans (if_pos rfl))
    have HH3 := Lib.hid hH3
    clear HTK hH3
    go_wp2_with fail
    go_ret
    rw [HR.out]
    exact HOUT.out false _ HH3.out hg3
  | true =>
    go_wp2_with fail
    refine (HMY.out w3 hsz).mono ?_
    rintro e w4 ⟨rfl, rfl⟩
    have hH5 := hH3.alloc' (.cells #[.int .i64 k, .int .u64 a, .slice A d.length c, .int .i64 m] 31)
    have hg5 := hg3.alloc (.cells #[.int .i64 k, .int .u64 a, .slice A d.length c, .int .i64 m] 31)
    generalize w3.alloc (.cells #[.int .i64 k, .int .u64 a, .slice A d.length c, .int .i64 m] 31) = w4 at *
    clear q0 q1 q2 q3 p0 p1 p2 p3 p4 hH3 hg3 hsz HMY
    obtain ⟨⟨q0, q1, q2, q3⟩, p0, p1, p2, p3, p4⟩ := HB.out _ ((b, .cells #[.int .i64 size, pv] 76) :: Hp) Fr hH5
    cases may with
    | false =>
      by_cases k4 : rk = 4
      · by_cases c4 : rc = 2
        · have HR := Lib.hid (show R = (true, P) from HTK.out.trans (by simp [k4, c4]))
          have HH5 := Lib.hid hH5
          subst k4 c4
          clear HTK hH5
          go_wp2_with fail
          go_ret
          rw [HR.out]
          exact HOUT.out true _ HH5.out hg5
        · have HR := Lib.hid (show R = (false, P) from HTK.out.trans (by simp [k4, c4]))
          have HH5 := Lib.hid hH5
          have ec : (rc == 2) = false := by simpa using c4
          subst k4
          clear HTK hH5
          go_wp2_with fail
          go_ret
          rw [HR.out]
          exact HOUT.out false _ HH5.out hg5
      · have HR := Lib.hid (show R = (false, P) from HTK.out.trans (by simp [k4]))
        have HH5 := Lib.hid hH5
        have ek : (rk == 4) = false := by simpa using k4
        clear HTK hH5
        go_wp2_with fail
        go_ret
        rw [HR.out]
        exact HOUT.out false _ HH5.out hg5
    | true =>
      by_cases k4 : rk = 4
      · have HR := Lib.hid (show R = refP P ⟨k, a, d, m⟩ rc from HTK.out.trans (by simp [k4]))
        subst k4
        have HC := Lib.hid (HRF.out w4 _ hH5)
        clear HTK hH5 HDN HGT HRF HLI
        go_wp2_with fail
        refine HC.out.mono ?_
        rintro e w5 hret
        obtain ⟨rfl, hret3⟩ := RetR18.more (Hn := []) hret hg5
        clear hret HC
        go_wp2_with fail
        go_ret
        rw [HR.out]
        exact ⟨rfl, hret3⟩
      by_cases k1 : rk = 1
      · have HR := Lib.hid (show R = doneP P ⟨k, a, d, m⟩ from HTK.out.trans (by simp [k1]))
        subst k1
        have HC := Lib.hid (HDN.out w4 _ hH5)
        clear HTK hH5 HDN HGT HRF HLI
        go_wp2_with fail
        refine HC.out.mono ?_
        rintro e w5 hret
        obtain ⟨rfl, hret3⟩ := RetR18.more (Hn := []) hret hg5
        clear hret HC
        go_wp2_with fail
        go_ret
        rw [HR.out]
        exact ⟨rfl, hret3⟩
      by_cases k2 : rk = 2
      · by_cases hk3 : k = 3
        · have HR := Lib.hid (show R = gotP P a rd y from HTK.out.trans (by simp [k2, hk3]))
          subst k2 hk3
          have HC := Lib.hid (HGT.out w4 _ hH5)
          clear HTK hH5 HDN HGT HRF HLI
          go_wp2_with fail
          refine HC.out.mono ?_
          rintro e w5 hret
          obtain ⟨rfl, hret3⟩ := RetR18.more (Hn := []) hret hg5
          clear hret HC
          go_wp2_with fail
          go_ret
          rw [HR.out]
          exact ⟨rfl, hret3⟩
        · have HR := Lib.hid (show R = (false, P) from HTK.out.trans (by simp [k2, hk3]))
          have ek : (k == 3) = false := by simpa using hk3
          subst k2
          clear HTK HDN HGT HRF HLI
          go_wp2_with fail
          go_ret
          rw [HR.out]
          exact HOUT.out false _ hH5 hg5
      · by_cases hk6 : k = 6
        · have HR := Lib.hid (show R = listP P ⟨k, a, d, m⟩ z from HTK.out.trans (by simp [k4, k1, k2, hk6]))
          subst hk6
          have HC := Lib.hid (HLI.out w4 _ hH5)
          clear HTK hH5 HDN HGT HRF HLI
          go_wp2_with fail
          refine HC.out.mono ?_
          rintro e w5 hret
          obtain ⟨rfl, hret3⟩ := RetR18.more (Hn := []) hret hg5
          clear hret HC
          go_wp2_with fail
          go_ret
          rw [HR.out]
          exact ⟨rfl, hret3⟩
        · have HR := Lib.hid (show R = (false, P) from HTK.out.trans (by simp [k4, k1, k2, hk6]))
          have ek : (k == 6) = false := by simpa using hk6
          clear HTK HDN HGT HRF HLI
          go_wp2_with fail
          go_ret
          rw [HR.out]
          exact HOUT.out false _ hH5 hg5
end Go.Proofs.Ytinfbpldgobmfaa
