/-
  Package ideal: Take, whole; Can.
-/
import Derived.Test.YtinfbpldgobmfaaIdS
namespace Go.Proofs.Ytinfbpldgobmfaa
open Go.RowKit
set_option linter.unusedSimpArgs false
set_option linter.unusedVariables false

theorem FrWs.right {v : Value} {zs : List Int} {A B : HL} (h : FrWs B v zs) : FrWs (A ++ B) v zs := fun w hw => h w hw.right
def takeF (size : Int) (M : List (Int × List BK)) (o : OV) (r : RV) : Bool × List (Int × List BK) :=
  if r.fits = false then (false, M) else if mayB size o.k o.d.length o.m = false then (decide (r.k = 4 ∧ r.c = 2), M)
  else if r.k = 1 then doneM M o else if r.k = 2 then gotM M o r.d r.y else if r.k = 3 then listM M o r.z else refM M o r.c
theorem takeF_eq {size : Int} {M : List (Int × List BK)} {o : OV} {r : RV} (h : r.k ≠ 3) : takeF size M o r = takeM size M o r := by
  unfold takeF takeM
  rw [if_neg h]
theorem atM_small {M : List (Int × List BK)} {n : Nat} (h0 : 1 ≤ n) (hls : ∀ p ∈ M, p.2.length ≤ n) (a : Int) : (atM M a).length ≤ n := by
  unfold atM
  split
  · simpa using h0
  · unfold lookM
    cases hf : M.find? (fun p => p.1 == a) with
    | none => simp
    | some p => have := hls p (List.mem_of_find?_eq_some hf); simpa using this
set_option maxRecDepth 20000 in
set_option maxHeartbeats 4000000 in
theorem idtake3_any (v : Value) (size : Int) (M : List (Int × List BK)) (o : OV) (dv : Value) (r : RV) (rdv av : Value) (H Fr : HL) (w : World) (h : IsIdeal v size M H) (hM : MOk M) (ha : U64 o.a) (hd : FrBytes Fr dv o.d) (hrd : FrBytes Fr rdv r.d) (hav : FrWs Fr av r.z) (h3 : r.k = 3) (hzu : ∀ x ∈ r.z, U64 x) (hml : M.length ≤ 100000) (hls : ∀ p ∈ M, p.2.length ≤ 50000) (hH : Holds w (H ++ Fr)) :
    Calls Try.prog 10 #[v, o.agg dv, r.agg rdv av] w (RetUpd (fun H' => IsIdeal v size (takeF size M o r).2 H') (.bool (takeF size M o r).1) w Fr) := by
  have HI := Lib.hid h
  obtain ⟨b, rfl⟩ := h.ptr
  have hb0 := hd w hH.right
  obtain ⟨A, c, hv⟩ := hb0.val
  subst hv
  have hb1 := hrd w hH.right
  obtain ⟨A1, c1, hv1⟩ := hb1.val
  subst hv1
  obtain ⟨A2, c2, hv2⟩ : ∃ A c, av = .slice A r.z.length c := by obtain ⟨_, A, c, h, _⟩ := hav w hH.right; exact ⟨A, c, h⟩
  subst hv2
  have HSZ : Hid (∀ (wx : World) (F : HL), Holds wx (H ++ F) → wx.cell? ⟨b, 0, none⟩ = some (.int .i64 size)) := Lib.hid (by
    obtain ⟨b', mb, es, clock, Hm, hb', hmay, hst, rfl⟩ := h
    injection hb' with hb'
    injection hb' with hb'
    injection hb' with hb'
    subst hb'
    exact fun wx F hx => hx.hcell 0)
  have HRP := Lib.hid (fun wx => idreply_any r.k r.c A1 r.d.length c1 r.y A2 r.z.length c2 wx)
  have HMY := Lib.hid (fun wx h => idmay_any b size o.k o.a A o.d.length c o.m wx h)
  have HLI := Lib.hid (fun (wx : World) (F : HL) (h1 : FrBytes F (.slice A o.d.length c) o.d) (h1z : FrWs F (.slice A2 r.z.length c2) r.z) (h2 : Holds wx (H ++ F)) => idlisted_any (.pointer (some ⟨b, 0, none⟩)) size M o (.slice A o.d.length c) (.slice A2 r.z.length c2) r.z H F wx h hM ha h1 h1z hzu hml hls h2)
  have T0 := Lib.hid (fun (e : r.fits = false) => show takeF size M o r = (false, M) from if_pos e)
  have T1 := Lib.hid (fun (e : r.fits = true) (e2 : mayB size o.k o.d.length o.m = false) => show takeF size M o r = (decide (r.k = 4 ∧ r.c = 2), M) by unfold takeF; rw [if_neg (by rw [e]; decide), if_pos e2])
  have T2 := Lib.hid (fun (e : r.fits = true) (e2 : mayB size o.k o.d.length o.m = true) => show takeF size M o r = listM M o r.z by unfold takeF; rw [if_neg (by rw [e]; decide), if_neg (by rw [e2]; decide), if_neg (by omega), if_neg (by omega), if_pos h3])
  change Hid (∀ wx, Calls Try.prog 29 #[.agg #[.int .i64 r.k, .int .i64 r.c, .slice A1 r.d.length c1, .bool r.y, .slice A2 r.z.length c2]] wx fun e w' => e = .returned (.bool r.fits) ∧ w' = wx.alloc (.cells #[.int .i64 r.k, .int .i64 r.c, .slice A1 r.d.length c1, .bool r.y, .slice A2 r.z.length c2] 34)) at HRP
  generalize takeF size M o r = R at *
  generalize r.fits = fits at *
  generalize hmy : mayB size o.k o.d.length o.m = may at *
  have hH1 := (hH.alloc (.cells #[.int .i64 o.k, .int .u64 o.a, .slice A o.d.length c, .int .i64 o.m] 31)).alloc (.cells #[.int .i64 r.k, .int .i64 r.c, .slice A1 r.d.length c1, .bool r.y, .slice A2 r.z.length c2] 34)
  have hg1 := ((Grew.refl w).alloc (.cells #[.int .i64 o.k, .int .u64 o.a, .slice A o.d.length c, .int .i64 o.m] 31)).alloc (.cells #[.int .i64 r.k, .int .i64 r.c, .slice A1 r.d.length c1, .bool r.y, .slice A2 r.z.length c2] 34)
  rw [World.size_alloc] at hH1
  have HF1 := Lib.hid hd
  have HF2 := Lib.hid hrd
  have HM0 := Lib.hid hM
  have HF3 := Lib.hid hav
  clear h hM ha hd hrd hav hb0 hb1 hzu hml hls hH hmy
  obtain ⟨k, a, d, m⟩ := o
  obtain ⟨rk, rc, rd, y, z⟩ := r
  simp only [OV.agg, RV.agg] at *
  subst h3
  have hH2 : Holds ((w.alloc (.cells #[.int .i64 k, .int .u64 a, .slice A d.length c, .int .i64 m] 31)).alloc (.cells #[.int .i64 3, .int .i64 rc, .slice A1 rd.length c1, .bool y, .slice A2 z.length c2] 34)) (H ++ ((w.heap.size, .cells #[.int .i64 k, .int .u64 a, .slice A d.length c, .int .i64 m] 31) :: ((w.heap.size + 1, .cells #[.int .i64 3, .int .i64 rc, .slice A1 rd.length c1, .bool y, .slice A2 z.length c2] 34) :: Fr))) := hH1.sub (by (repeat' (first | refine sub_append ?_ ?_ | refine sub_cons ?_ ?_ | exact sub_nil)); all_goals first | (intro p hp; simp only [List.mem_append, List.mem_cons, hp, true_or, or_true]) | simp only [List.mem_append, List.mem_cons, true_or, or_true]) (fun b => by simp only [keyc_append, keyc_cons, keyc_nil]; omega)
  have HB : Hid (∀ (wx : World) (X F : HL), Holds wx (X ++ ((w.heap.size, .cells #[.int .i64 k, .int .u64 a, .slice A d.length c, .int .i64 m] 31) :: ((w.heap.size + 1, .cells #[.int .i64 3, .int .i64 rc, .slice A1 rd.length c1, .bool y, .slice A2 z.length c2] 34) :: F))) →
      (wx.cell? ⟨w.heap.size, 0, none⟩ = some (.int .i64 k) ∧ wx.cell? ⟨w.heap.size, 1, none⟩ = some (.int .u64 a) ∧ wx.cell? ⟨w.heap.size, 2, none⟩ = some (.slice A d.length c) ∧ wx.cell? ⟨w.heap.size, 3, none⟩ = some (.int .i64 m)) ∧
      wx.cell? ⟨w.heap.size + 1, 0, none⟩ = some (.int .i64 3) ∧ wx.cell? ⟨w.heap.size + 1, 1, none⟩ = some (.int .i64 rc) ∧ wx.cell? ⟨w.heap.size + 1, 2, none⟩ = some (.slice A1 rd.length c1) ∧ wx.cell? ⟨w.heap.size + 1, 3, none⟩ = some (.bool y) ∧ wx.cell? ⟨w.heap.size + 1, 4, none⟩ = some (.slice A2 z.length c2)) := Lib.hid (fun wx X F hX =>
    ⟨⟨hX.right.hcell 0, hX.right.hcell 1, hX.right.hcell 2, hX.right.hcell 3⟩, hX.right.tail.hcell 0, hX.right.tail.hcell 1, hX.right.tail.hcell 2, hX.right.tail.hcell 3, hX.right.tail.hcell 4⟩)
  obtain ⟨⟨q0, q1, q2, q3⟩, p0, p1, p2, p3, p4⟩ := HB.out _ _ _ hH2
  have HFD := Lib.hid (FrBytes.right (A := [(w.heap.size, Obj.cells #[.int .i64 k, .int .u64 a, .slice A d.length c, .int .i64 m] 31), (w.heap.size + 1, Obj.cells #[.int .i64 3, .int .i64 rc, .slice A1 rd.length c1, .bool y, .slice A2 z.length c2] 34)]) HF1.out)
  have HFZ := Lib.hid (FrWs.right (A := [(w.heap.size, Obj.cells #[.int .i64 k, .int .u64 a, .slice A d.length c, .int .i64 m] 31), (w.heap.size + 1, Obj.cells #[.int .i64 3, .int .i64 rc, .slice A1 rd.length c1, .bool y, .slice A2 z.length c2] 34)]) HF3.out)
  have HFR := Lib.hid (FrBytes.right (A := [(w.heap.size, Obj.cells #[.int .i64 k, .int .u64 a, .slice A d.length c, .int .i64 m] 31), (w.heap.size + 1, Obj.cells #[.int .i64 3, .int .i64 rc, .slice A1 rd.length c1, .bool y, .slice A2 z.length c2] 34)]) HF2.out)
  clear hH1
  go_enter Try.func10, Try.ntmps10
  go_wp2_with fail
  refine (HRP.out _).mono ?_
  rintro e w1 ⟨rfl, rfl⟩
  have hH3 := hH2.alloc' (.cells #[.int .i64 3, .int .i64 rc, .slice A1 rd.length c1, .bool y, .slice A2 z.length c2] 34)
  have hg3 := hg1.alloc (.cells #[.int .i64 3, .int .i64 rc, .slice A1 rd.length c1, .bool y, .slice A2 z.length c2] 34)
  clear hH2 hg1 HRP q0 q1 q2 q3 p0 p1 p2 p3 p4
  generalize ((w.alloc (.cells #[.int .i64 k, .int .u64 a, .slice A d.length c, .int .i64 m] 31)).alloc (.cells #[.int .i64 3, .int .i64 rc, .slice A1 rd.length c1, .bool y, .slice A2 z.length c2] 34)).alloc (.cells #[.int .i64 3, .int .i64 rc, .slice A1 rd.length c1, .bool y, .slice A2 z.length c2] 34) = w1 at *
  generalize w.heap.size + 1 = g5 at *
  generalize w.heap.size = g4 at *
  obtain ⟨⟨q0, q1, q2, q3⟩, p0, p1, p2, p3, p4⟩ := HB.out _ _ _ hH3
  have HH3 := Lib.hid hH3
  have hsz := HSZ.out w1 _ hH3
  cases fits with
  | false =>
    have HR := Lib.hid (T0.out (by trivial))
    clear T0 T1 T2 hH3
    go_wp2_with fail
    go_ret
    rw [HR.out]
    exact ⟨rfl, H, HI.out, Holds.mid (B := [_, _]) HH3.out, hg3⟩
  | true =>
    go_wp2_with fail
    refine (HMY.out w1 hsz).mono ?_
    rintro e w2 ⟨rfl, rfl⟩
    have hH4 := hH3.alloc' (.cells #[.int .i64 k, .int .u64 a, .slice A d.length c, .int .i64 m] 31)
    have hg4 := hg3.alloc (.cells #[.int .i64 k, .int .u64 a, .slice A d.length c, .int .i64 m] 31)
    generalize w1.alloc (.cells #[.int .i64 k, .int .u64 a, .slice A d.length c, .int .i64 m] 31) = w2 at *
    clear q0 q1 q2 q3 p0 p1 p2 p3 p4 hH3 hg3 HH3 hsz HMY
    obtain ⟨⟨q0, q1, q2, q3⟩, p0, p1, p2, p3, p4⟩ := HB.out _ _ _ hH4
    have HH4 := Lib.hid hH4
    cases may with
    | false =>
      have HR := Lib.hid (T1.out (by trivial) (by trivial))
      clear T0 T1 T2 hH4
      have HR2 := Lib.hid (HR.out.trans (by rw [decide_eq_false (fun h => by omega)]))
      clear HR
      go_wp2_with fail
      go_ret
      rw [HR2.out]
      exact ⟨rfl, H, HI.out, Holds.mid (B := [_, _]) HH4.out, hg4⟩
    | true =>
      have HR := Lib.hid (T2.out (by trivial) (by trivial))
      have HC := Lib.hid (HLI.out w2 _ HFD.out HFZ.out hH4)
      clear T0 T1 T2 hH4 HLI
      go_wp2_with fail
      refine HC.out.mono ?_
      rintro e w3 ⟨rfl, H3, hi3, hH5, hg5⟩
      have HI3 := Lib.hid hi3
      clear hi3 HC q0 q1 q2 q3 p0 p1 p2 p3 p4
      go_wp2_with fail
      go_ret
      rw [HR.out]
      exact ⟨rfl, H3, HI3.out, Holds.mid (B := [_, _]) hH5, hg4.trans hg5⟩

theorem idtakeF_any (v : Value) (size : Int) (M : List (Int × List BK)) (o : OV) (dv : Value) (r : RV) (rdv av : Value) (H Fr : HL) (w : World) (h : IsIdeal v size M H) (hM : MOk M) (ha : U64 o.a) (hd : FrBytes Fr dv o.d) (hrd : FrBytes Fr rdv r.d) (hav : FrWs Fr av r.z) (hzu : ∀ x ∈ r.z, U64 x) (hml : M.length ≤ 100000) (hls : ∀ p ∈ M, p.2.length ≤ 50000) (hH : Holds w (H ++ Fr)) :
    Calls Try.prog 10 #[v, o.agg dv, r.agg rdv av] w (RetUpd (fun H' => IsIdeal v size (takeF size M o r).2 H') (.bool (takeF size M o r).1) w Fr) := by
  by_cases h3 : r.k = 3
  · exact idtake3_any v size M o dv r rdv av H Fr w h hM ha hd hrd hav h3 hzu hml hls hH
  · rw [takeF_eq h3]
    exact idtake_any v size M o dv r rdv av H Fr w h hM ha hd hrd hav h3 (atM_small (by omega) hls _) hH
theorem takeF_fst {size : Int} {M M' : List (Int × List BK)} {o : OV} {r : RV} (hk : o.k = 3) (h : atM M' o.a = atM M o.a) : (takeF size M' o r).1 = (takeF size M o r).1 := by
  by_cases h3 : r.k = 3
  · unfold takeF
    split
    · rfl
    · split
      · rfl
      · simp only [if_neg (show ¬ r.k = 1 by omega), if_neg (show ¬ r.k = 2 by omega), if_pos h3]; rw [list_no6 (by omega), list_no6 (by omega)]
  · rw [takeF_eq h3, takeF_eq h3]
    exact take_fst h
set_option maxRecDepth 20000 in
set_option maxHeartbeats 2000000 in
theorem idcan_any (v : Value) (size : Int) (M : List (Int × List BK)) (a : Int) (r : RV) (rdv av : Value) (H Fr : HL) (w : World) (h : IsIdeal v size M H) (hM : MOk M) (ha : U64 a) (hrd : FrBytes Fr rdv r.d) (hav : FrWs Fr av r.z) (hzu : ∀ x ∈ r.z, U64 x) (hml : M.length ≤ 100000) (hls : ∀ p ∈ M, p.2.length ≤ 50000) (hH : Holds w (H ++ Fr)) :
    Calls Try.prog 18 #[v, .int .u64 a, r.agg rdv av] w (RetFr (.bool (takeF size M ⟨3, a, [], 0⟩ r).1) w (H ++ Fr)) := by
  have HC := Lib.hid (fun (wx : World) (F : HL) (hx : Holds wx (H ++ F)) => idcopy_any v size M H F wx h hM (fun p hp => by have := hls p hp; omega) hx)
  have HT := Lib.hid (fun (M' : List (Int × List BK)) (v' : Value) (H' : HL) (hp : M'.Perm M) (h' : IsIdeal v' size M' H') (wx : World) (F : HL) (h1 : FrBytes F rdv r.d) (h2 : FrWs F av r.z) (hx : Holds wx (H' ++ F)) =>
    idtakeF_any v' size M' ⟨3, a, [], 0⟩ (.slice none 0 0) r rdv av H' F wx h' (hM.perm hp) ha (fr_nil F) h1 h2 hzu (by rw [hp.length_eq]; exact hml) (fun p hq => hls p (hp.mem_iff.1 hq)) hx)
  have HFS := Lib.hid (fun (M' : List (Int × List BK)) (hp : M'.Perm M) => takeF_fst (size := size) (o := ⟨3, a, [], 0⟩) (r := r) rfl (at_perm hp hM.nodup a))
  have HF2 := Lib.hid hrd
  have HF3 := Lib.hid hav
  obtain ⟨b, rfl⟩ := h.ptr
  obtain ⟨A1, c1, hv1⟩ := (hrd w hH.right).val
  subst hv1
  obtain ⟨A2, c2, hv2⟩ : ∃ A c, av = .slice A r.z.length c := by obtain ⟨_, A, c, h, _⟩ := hav w hH.right; exact ⟨A, c, h⟩
  subst hv2
  generalize (takeF size M ⟨3, a, [], 0⟩ r).1 = res at *
  clear h hM hrd hav hzu hls hml
  obtain ⟨rk, rc, rd, y, z⟩ := r
  simp only [OV.agg, RV.agg] at *
  have hH1 : Holds (w.alloc (.cells #[.int .i64 rk, .int .i64 rc, .slice A1 rd.length c1, .bool y, .slice A2 z.length c2] 34)) (H ++ ((w.heap.size, .cells #[.int .i64 rk, .int .i64 rc, .slice A1 rd.length c1, .bool y, .slice A2 z.length c2] 34) :: Fr)) := Holds.swap (A := [_]) (hH.alloc _)
  have hg1 := (Grew.refl w).alloc (.cells #[.int .i64 rk, .int .i64 rc, .slice A1 rd.length c1, .bool y, .slice A2 z.length c2] 34)
  have HS : Hid (∀ (wx : World) (X F : HL), Holds wx (X ++ ((w.heap.size, .cells #[.int .i64 rk, .int .i64 rc, .slice A1 rd.length c1, .bool y, .slice A2 z.length c2] 34) :: F)) → wx.cell? ⟨w.heap.size, 0, none⟩ = some (.int .i64 rk) ∧ wx.cell? ⟨w.heap.size, 1, none⟩ = some (.int .i64 rc) ∧ wx.cell? ⟨w.heap.size, 2, none⟩ = some (.slice A1 rd.length c1) ∧ wx.cell? ⟨w.heap.size, 3, none⟩ = some (.bool y) ∧ wx.cell? ⟨w.heap.size, 4, none⟩ = some (.slice A2 z.length c2)) := Lib.hid (fun wx X F h => ⟨h.right.hcell 0, h.right.hcell 1, h.right.hcell 2, h.right.hcell 3, h.right.hcell 4⟩)
  go_enter Try.func18, Try.ntmps18
  go_upto_region 1 with fail
  generalize w.alloc (.cells #[.int .i64 rk, .int .i64 rc, .slice A1 rd.length c1, .bool y, .slice A2 z.length c2] 34) = w0 at *
  generalize w.heap.size = g at *
  refine Z_begin (fun wx => wx.cell? ⟨g, 0, none⟩ = some (.int .i64 rk) ∧ wx.cell? ⟨g, 1, none⟩ = some (.int .i64 rc) ∧ wx.cell? ⟨g, 2, none⟩ = some (.slice A1 rd.length c1) ∧ wx.cell? ⟨g, 3, none⟩ = some (.bool y) ∧ wx.cell? ⟨g, 4, none⟩ = some (.slice A2 z.length c2)) 7 (by kernel_rfl) (fun w1 hd => HS.out _ _ _ (hH1.dr hd)) (fun w1 hd hs => ?_)
  have hH2 := hH1.dr hd; have hG2 := hg1.trans (Grew.dr hd); clear hd hH1 hg1
  refine Z_takeD 0 (some 7) (v := ?_) rfl rfl (by kernel_rfl) (fun _ _ _ h => h) (by rfl) hs ?_ ?_
  rotate_left
  · intro wx hx; obtain ⟨s0, s1, s2, s3, s4⟩ := hx; go_simp; try with_reducible rfl
  simp only [Act.put, List.setIfInBounds_toArray, List.set_cons_succ, List.set_cons_zero]
  refine Z_takeD 2 (some 9) (v := ?_) rfl rfl (by kernel_rfl) (fun _ _ _ h => h) (by rfl) hs ?_ ?_
  rotate_left
  · intro wx hx; obtain ⟨s0, s1, s2, s3, s4⟩ := hx; go_simp; try with_reducible rfl
  simp only [Act.put, List.setIfInBounds_toArray, List.set_cons_succ, List.set_cons_zero]
  refine Z_takeD 3 (some 10) (v := ?_) rfl rfl (by kernel_rfl) (fun _ _ _ h => h) (by rfl) hs ?_ ?_
  rotate_left
  · intro wx hx; obtain ⟨s0, s1, s2, s3, s4⟩ := hx; go_simp; try with_reducible rfl
  simp only [Act.put, List.setIfInBounds_toArray, List.set_cons_succ, List.set_cons_zero]
  refine Z_takeD 4 (some 11) (v := ?_) rfl rfl (by kernel_rfl) (fun _ _ _ h => h) (by rfl) hs ?_ ?_
  rotate_left
  · intro wx hx; obtain ⟨s0, s1, s2, s3, s4⟩ := hx; go_simp; try with_reducible rfl
  simp only [Act.put, List.setIfInBounds_toArray, List.set_cons_succ, List.set_cons_zero]
  refine Z_mid 1 rfl (by kernel_rfl) (fun K hK => ?_)
  have ⟨s0, s1, s2, s3, s4⟩ := hs
  go_simp; refine (HC.out w1 _ hH2).mono ?_; rintro e w2 ⟨v2, H2, rfl, ⟨M2, hp2, hi2⟩, hH3, hg3⟩; have HI2 := Lib.hid hi2; have HP2 := Lib.hid hp2; obtain ⟨b2, rfl⟩ := hi2.ptr; clear hi2 hp2   -- call w
  clear s0 s1 s2 s3 s4
  refine hK _ _ (HS.out _ (H2 ++ H) _ (by simpa using hH3)) (fun hs2 => ?_); clear hK K hs; have hs := hs2; clear hs2
  refine Z_mid 5 rfl (by kernel_rfl) (fun K hK => ?_)
  have ⟨s0, s1, s2, s3, s4⟩ := hs
  go_simp; refine (HT.out M2 _ H2 HP2.out HI2.out w2 _ (FrBytes.right (A := H) (FrBytes.right (A := [_]) HF2.out)) (FrWs.right (A := H) (FrWs.right (A := [_]) HF3.out)) hH3).mono ?_; rintro e w3 ⟨rfl, H5, hi5, hH5, hg5⟩   -- call w
  clear s0 s1 s2 s3 s4
  refine hK _ _ (HS.out _ (H5 ++ H) _ (by simpa using hH5)) (fun hs2 => ?_); clear hK K hs; have hs := hs2; clear hs2
  refine Z_takeD 6 (some 6) (v := ?_) rfl rfl (by kernel_rfl) (fun _ _ _ h => h) (by rfl) hs ?_ ?_
  rotate_left
  · intro wx hx; obtain ⟨s0, s1, s2, s3, s4⟩ := hx; go_simp; try with_reducible rfl
  simp only [Act.put, List.setIfInBounds_toArray, List.set_cons_succ, List.set_cons_zero]
  refine Z_done (by kernel_rfl) ?_ _
  rw [HFS.out M2 HP2.out]
  have hfin : Holds w3 (H ++ Fr) := Holds.mid (B := [_]) hH5.right
  clear hi5 hH5 hH3 hH2
  go_wp2_with fail
  go_ret
  exact ⟨rfl, hfin, (hG2.trans hg3).trans hg5⟩
end Go.Proofs.Ytinfbpldgobmfaa
