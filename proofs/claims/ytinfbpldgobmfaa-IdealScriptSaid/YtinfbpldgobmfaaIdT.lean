/-
  Package ideal: Take (but for lists).
-/
import Derived.Test.YtinfbpldgobmfaaIdG
import Derived.Test.YtinfbpldgobmfaaSrt
namespace Go.Proofs.Ytinfbpldgobmfaa
open Go.RowKit
set_option linter.unusedSimpArgs false
set_option linter.unusedVariables false

/-- a reply -/
structure RV where
  k : Int
  c : Int
  d : List UInt8
  y : Bool
  z : List Int
def RV.agg (r : RV) (dv av : Value) : Value := .agg #[.int .i64 r.k, .int .i64 r.c, dv, .bool r.y, av]
def RV.fits (r : RV) : Bool := repB r.k r.c r.d.length r.y r.z.length
def takeM (size : Int) (M : List (Int × List BK)) (o : OV) (r : RV) : Bool × List (Int × List BK) :=
  if r.fits = false then (false, M) else if mayB size o.k o.d.length o.m = false then (decide (r.k = 4 ∧ r.c = 2), M)
  else if r.k = 1 then doneM M o else if r.k = 2 then gotM M o r.d r.y else refM M o r.c
theorem idtake_nil (o : OV) (dv : Value) (r : RV) (rdv av : Value) (w : World) (Fr : HL) (hH : Holds w Fr) : Calls Try.prog 10 #[.pointer none, o.agg dv, r.agg rdv av] w (RetFr (.bool false) w Fr) := by
  obtain ⟨k, a, d, m⟩ := o
  obtain ⟨rk, rc, rd, y, z⟩ := r
  simp only [OV.agg, RV.agg]
  have hH1 := (hH.alloc' (.cells #[.int .i64 k, .int .u64 a, dv, .int .i64 m] 31)).alloc' (.cells #[.int .i64 rk, .int .i64 rc, rdv, .bool y, av] 34)
  have hg1 := ((Grew.refl w).alloc (.cells #[.int .i64 k, .int .u64 a, dv, .int .i64 m] 31)).alloc (.cells #[.int .i64 rk, .int .i64 rc, rdv, .bool y, av] 34)
  go_enter Try.func10, Try.ntmps10
  go_wp2_with fail
  go_ret
  exact ⟨rfl, hH1, hg1⟩
set_option maxRecDepth 20000 in
set_option maxHeartbeats 4000000 in
theorem idtake_any (v : Value) (size : Int) (M : List (Int × List BK)) (o : OV) (dv : Value) (r : RV) (rdv av : Value) (H Fr : HL) (w : World) (h : IsIdeal v size M H) (hM : MOk M) (ha : U64 o.a) (hd : FrBytes Fr dv o.d) (hrd : FrBytes Fr rdv r.d) (hav : FrWs Fr av r.z) (h3 : r.k ≠ 3) (hsm : (atM M o.a).length ≤ 50000) (hH : Holds w (H ++ Fr)) :
    Calls Try.prog 10 #[v, o.agg dv, r.agg rdv av] w (RetUpd (fun H' => IsIdeal v size (takeM size M o r).2 H') (.bool (takeM size M o r).1) w Fr) := by
  have HI := Lib.hid h
  obtain ⟨b, rfl⟩ := h.ptr
  have hb0 := hd w hH.right
  obtain ⟨A, c, hv⟩ := hb0.val
  subst hv
  have hb1 := hrd w hH.right
  obtain ⟨A1, c1, hv1⟩ := hb1.val
  subst hv1
  obtain ⟨A2, c2, hv2⟩ : ∃ A c, av = .slice A r.z.length c := by obtain ⟨_, A, c, h, _⟩ := hav w hH.right; exact ⟨A, c, h⟩
  subst hv2
  have HSZ : Hid (∀ (wx : World) (F : HL), Holds wx (H ++ F) → wx.cell? ⟨b, 0, none⟩ = some (.int .i64 size)) := Lib.hid (by
    obtain ⟨b', mb, es, clock, Hm, hb', hmay, hst, rfl⟩ := h
    injection hb' with hb'
    injection hb' with hb'
    injection hb' with hb'
    subst hb'
    exact fun wx F hx => hx.hcell 0)
  have HRP := Lib.hid (fun wx => idreply_any r.k r.c A1 r.d.length c1 r.y A2 r.z.length c2 wx)
  have HMY := Lib.hid (fun wx h => idmay_any b size o.k o.a A o.d.length c o.m wx h)
  have HDN := Lib.hid (fun (wx : World) (F : HL) (h1 : FrBytes F (.slice A o.d.length c) o.d) (h2 : Holds wx (H ++ F)) => iddone_any (.pointer (some ⟨b, 0, none⟩)) size M o (.slice A o.d.length c) H F wx h hM ha h1 hsm h2)
  have HGT := Lib.hid (fun (wx : World) (F : HL) (h1 : FrBytes F (.slice A1 r.d.length c1) r.d) (h2 : Holds wx (H ++ F)) => idgot_any (.pointer (some ⟨b, 0, none⟩)) size M o (.slice A o.d.length c) r.k r.c (.slice A1 r.d.length c1) r.d r.y (.slice A2 r.z.length c2) H F wx h hM ha h1 hsm h2)
  have HRF := Lib.hid (fun (wx : World) (F : HL) (h1 : FrBytes F (.slice A o.d.length c) o.d) (h2 : Holds wx (H ++ F)) => idref_any (.pointer (some ⟨b, 0, none⟩)) size M o (.slice A o.d.length c) r.c H F wx h hM ha h1 hsm h2)
  have T0 := Lib.hid (fun (e : r.fits = false) => show takeM size M o r = (false, M) from if_pos e)
  have T1 := Lib.hid (fun (e : r.fits = true) (e2 : mayB size o.k o.d.length o.m = false) => show takeM size M o r = (decide (r.k = 4 ∧ r.c = 2), M) by unfold takeM; rw [if_neg (by rw [e]; decide), if_pos e2])
  have T2 := Lib.hid (fun (e : r.fits = true) (e2 : mayB size o.k o.d.length o.m = true) (e3 : r.k = 1) => show takeM size M o r = doneM M o by unfold takeM; rw [if_neg (by rw [e]; decide), if_neg (by rw [e2]; decide), if_pos e3])
  have T3 := Lib.hid (fun (e : r.fits = true) (e2 : mayB size o.k o.d.length o.m = true) (e3 : r.k = 2) => show takeM size M o r = gotM M o r.d r.y by unfold takeM; rw [if_neg (by rw [e]; decide), if_neg (by rw [e2]; decide), if_neg (by omega), if_pos e3])
  have T4 := Lib.hid (fun (e : r.fits = true) (e2 : mayB size o.k o.d.length o.m = true) (e3 : ¬ r.k = 1) (e4 : ¬ r.k = 2) => show takeM size M o r = refM M o r.c by unfold takeM; rw [if_neg (by rw [e]; decide), if_neg (by rw [e2]; decide), if_neg e3, if_neg e4])
  change Hid (∀ wx, Calls Try.prog 29 #[.agg #[.int .i64 r.k, .int .i64 r.c, .slice A1 r.d.length c1, .bool r.y, .slice A2 r.z.length c2]] wx fun e w' => e = .returned (.bool r.fits) ∧ w' = wx.alloc (.cells #[.int .i64 r.k, .int .i64 r.c, .slice A1 r.d.length c1, .bool r.y, .slice A2 r.z.length c2] 34)) at HRP
  generalize takeM size M o r = R at *
  generalize r.fits = fits at *
  generalize hmy : mayB size o.k o.d.length o.m = may at *
  have hH1 := (hH.alloc (.cells #[.int .i64 o.k, .int .u64 o.a, .slice A o.d.length c, .int .i64 o.m] 31)).alloc (.cells #[.int .i64 r.k, .int .i64 r.c, .slice A1 r.d.length c1, .bool r.y, .slice A2 r.z.length c2] 34)
  have hg1 := ((Grew.refl w).alloc (.cells #[.int .i64 o.k, .int .u64 o.a, .slice A o.d.length c, .int .i64 o.m] 31)).alloc (.cells #[.int .i64 r.k, .int .i64 r.c, .slice A1 r.d.length c1, .bool r.y, .slice A2 r.z.length c2] 34)
  rw [World.size_alloc] at hH1
  have HF1 := Lib.hid hd
  have HF2 := Lib.hid hrd
  have HM0 := Lib.hid hM
  clear h hM ha hd hrd hav hb0 hb1 hsm hH hmy
  obtain ⟨k, a, d, m⟩ := o
  obtain ⟨rk, rc, rd, y, z⟩ := r
  simp only [OV.agg, RV.agg] at *
  have hH2 : Holds ((w.alloc (.cells #[.int .i64 k, .int .u64 a, .slice A d.length c, .int .i64 m] 31)).alloc (.cells #[.int .i64 rk, .int .i64 rc, .slice A1 rd.length c1, .bool y, .slice A2 z.length c2] 34)) (H ++ ((w.heap.size, .cells #[.int .i64 k, .int .u64 a, .slice A d.length c, .int .i64 m] 31) :: ((w.heap.size + 1, .cells #[.int .i64 rk, .int .i64 rc, .slice A1 rd.length c1, .bool y, .slice A2 z.length c2] 34) :: Fr))) := hH1.sub (by (repeat' (first | refine sub_append ?_ ?_ | refine sub_cons ?_ ?_ | exact sub_nil)); all_goals first | (intro p hp; simp only [List.mem_append, List.mem_cons, hp, true_or, or_true]) | simp only [List.mem_append, List.mem_cons, true_or, or_true]) (fun b => by simp only [keyc_append, keyc_cons, keyc_nil]; omega)
  have HB : Hid (∀ (wx : World) (X F : HL), Holds wx (X ++ ((w.heap.size, .cells #[.int .i64 k, .int .u64 a, .slice A d.length c, .int .i64 m] 31) :: ((w.heap.size + 1, .cells #[.int .i64 rk, .int .i64 rc, .slice A1 rd.length c1, .bool y, .slice A2 z.length c2] 34) :: F))) →
      (wx.cell? ⟨w.heap.size, 0, none⟩ = some (.int .i64 k) ∧ wx.cell? ⟨w.heap.size, 1, none⟩ = some (.int .u64 a) ∧ wx.cell? ⟨w.heap.size, 2, none⟩ = some (.slice A d.length c) ∧ wx.cell? ⟨w.heap.size, 3, none⟩ = some (.int .i64 m)) ∧
      wx.cell? ⟨w.heap.size + 1, 0, none⟩ = some (.int .i64 rk) ∧ wx.cell? ⟨w.heap.size + 1, 1, none⟩ = some (.int .i64 rc) ∧ wx.cell? ⟨w.heap.size + 1, 2, none⟩ = some (.slice A1 rd.length c1) ∧ wx.cell? ⟨w.heap.size + 1, 3, none⟩ = some (.bool y) ∧ wx.cell? ⟨w.heap.size + 1, 4, none⟩ = some (.slice A2 z.length c2)) := Lib.hid (fun wx X F hX =>
    ⟨⟨hX.right.hcell 0, hX.right.hcell 1, hX.right.hcell 2, hX.right.hcell 3⟩, hX.right.tail.hcell 0, hX.right.tail.hcell 1, hX.right.tail.hcell 2, hX.right.tail.hcell 3, hX.right.tail.hcell 4⟩)
  obtain ⟨⟨q0, q1, q2, q3⟩, p0, p1, p2, p3, p4⟩ := HB.out _ _ _ hH2
  have HFD := Lib.hid (FrBytes.right (A := [(w.heap.size, Obj.cells #[.int .i64 k, .int .u64 a, .slice A d.length c, .int .i64 m] 31), (w.heap.size + 1, Obj.cells #[.int .i64 rk, .int .i64 rc, .slice A1 rd.length c1, .bool y, .slice A2 z.length c2] 34)]) HF1.out)
  have HFR := Lib.hid (FrBytes.right (A := [(w.heap.size, Obj.cells #[.int .i64 k, .int .u64 a, .slice A d.length c, .int .i64 m] 31), (w.heap.size + 1, Obj.cells #[.int .i64 rk, .int .i64 rc, .slice A1 rd.length c1, .bool y, .slice A2 z.length c2] 34)]) HF2.out)
  clear hH1
  go_enter Try.func10, Try.ntmps10
  go_wp2_with fail
  refine (HRP.out _).mono ?_
  rintro e w1 ⟨rfl, rfl⟩
  have hH3 := hH2.alloc' (.cells #[.int .i64 rk, .int .i64 rc, .slice A1 rd.length c1, .bool y, .slice A2 z.length c2] 34)
  have hg3 := hg1.alloc (.cells #[.int .i64 rk, .int .i64 rc, .slice A1 rd.length c1, .bool y, .slice A2 z.length c2] 34)
  clear hH2 hg1 HRP q0 q1 q2 q3 p0 p1 p2 p3 p4
  generalize ((w.alloc (.cells #[.int .i64 k, .int .u64 a, .slice A d.length c, .int .i64 m] 31)).alloc (.cells #[.int .i64 rk, .int .i64 rc, .slice A1 rd.length c1, .bool y, .slice A2 z.length c2] 34)).alloc (.cells #[.int .i64 rk, .int .i64 rc, .slice A1 rd.length c1, .bool y, .slice A2 z.length c2] 34) = w1 at *
  generalize w.heap.size + 1 = g5 at *
  generalize w.heap.size = g4 at *
  obtain ⟨⟨q0, q1, q2, q3⟩, p0, p1, p2, p3, p4⟩ := HB.out _ _ _ hH3
  have HH3 := Lib.hid hH3
  have hsz := HSZ.out w1 _ hH3
  cases fits with
  | false =>
    have HR := Lib.hid (T0.out (by trivial))
    clear T0 T1 T2 T3 T4 hH3
    go_wp2_with fail
    go_ret
    rw [HR.out]
    exact ⟨rfl, H, HI.out, Holds.mid (B := [_, _]) HH3.out, hg3⟩
  | true =>
    go_wp2_with fail
    refine (HMY.out w1 hsz).mono ?_
    rintro e w2 ⟨rfl, rfl⟩
    have hH4 := hH3.alloc' (.cells #[.int .i64 k, .int .u64 a, .slice A d.length c, .int .i64 m] 31)
    have hg4 := hg3.alloc (.cells #[.int .i64 k, .int .u64 a, .slice A d.length c, .int .i64 m] 31)
    generalize w1.alloc (.cells #[.int .i64 k, .int .u64 a, .slice A d.length c, .int .i64 m] 31) = w2 at *
    clear q0 q1 q2 q3 p0 p1 p2 p3 p4 hH3 hg3 HH3 hsz HMY
    obtain ⟨⟨q0, q1, q2, q3⟩, p0, p1, p2, p3, p4⟩ := HB.out _ _ _ hH4
    have HH4 := Lib.hid hH4
    cases may with
    | false =>
      have HR := Lib.hid (T1.out (by trivial) (by trivial))
      clear T0 T1 T2 T3 T4 hH4
      by_cases k4 : rk = 4
      · by_cases c4 : rc = 2
        · have HR2 := Lib.hid (HR.out.trans (by rw [decide_eq_true ⟨k4, c4⟩]))
          subst k4 c4
          clear HR
          go_wp2_with fail
          go_ret
          rw [HR2.out]
          exact ⟨rfl, H, HI.out, Holds.mid (B := [_, _]) HH4.out, hg4⟩
        · have HR2 := Lib.hid (HR.out.trans (by rw [decide_eq_false (fun h => c4 h.2)]))
          subst k4
          clear HR
          go_wp2_with fail
          go_ret
          rw [HR2.out]
          exact ⟨ret_b (by simpa using c4), H, HI.out, Holds.mid (B := [_, _]) HH4.out, hg4⟩
      · have HR2 := Lib.hid (HR.out.trans (by rw [decide_eq_false (fun h => k4 h.1)]))
        clear HR
        go_wp2_with fail
        go_ret
        rw [HR2.out]
        exact ⟨rfl, H, HI.out, Holds.mid (B := [_, _]) HH4.out, hg4⟩
    | true =>
      by_cases k1 : rk = 1
      · have HR := Lib.hid (T2.out (by trivial) (by trivial) k1)
        have HC := Lib.hid (HDN.out w2 _ HFD.out hH4)
        subst k1
        clear T0 T1 T2 T3 T4 hH4 HDN HGT HRF
        go_wp2_with fail
        refine HC.out.mono ?_
        rintro e w3 ⟨rfl, H3, hi3, hH5, hg5⟩
        have HI3 := Lib.hid hi3
        clear hi3 HC q0 q1 q2 q3 p0 p1 p2 p3 p4
        go_wp2_with fail
        go_ret
        rw [HR.out]
        exact ⟨rfl, H3, HI3.out, Holds.mid (B := [_, _]) hH5, hg4.trans hg5⟩
      by_cases k2 : rk = 2
      · have HR := Lib.hid (T3.out (by trivial) (by trivial) k2)
        have HC := Lib.hid (HGT.out w2 _ HFR.out hH4)
        subst k2
        clear T0 T1 T2 T3 T4 hH4 HDN HGT HRF
        go_wp2_with fail
        refine HC.out.mono ?_
        rintro e w3 ⟨rfl, H3, hi3, hH5, hg5⟩
        have HI3 := Lib.hid hi3
        clear hi3 HC q0 q1 q2 q3 p0 p1 p2 p3 p4
        go_wp2_with fail
        go_ret
        rw [HR.out]
        exact ⟨rfl, H3, HI3.out, Holds.mid (B := [_, _]) hH5, hg4.trans hg5⟩
      · have HR := Lib.hid (T4.out (by trivial) (by trivial) k1 k2)
        have HC := Lib.hid (HRF.out w2 _ HFD.out hH4)
        clear T0 T1 T2 T3 T4 hH4 HDN HGT HRF
        go_wp2_with fail
        refine HC.out.mono ?_
        rintro e w3 ⟨rfl, H3, hi3, hH5, hg5⟩
        have HI3 := Lib.hid hi3
        clear hi3 HC q0 q1 q2 q3 p0 p1 p2 p3 p4
        go_wp2_with fail
        go_ret
        rw [HR.out]
        exact ⟨rfl, H3, HI3.out, Holds.mid (B := [_, _]) hH5, hg4.trans hg5⟩
end Go.Proofs.Ytinfbpldgobmfaa
