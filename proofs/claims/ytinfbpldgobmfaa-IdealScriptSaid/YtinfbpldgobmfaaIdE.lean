/-
  Package ideal: got, refused.
-/
import Derived.Test.YtinfbpldgobmfaaIdB
namespace Go.Proofs.Ytinfbpldgobmfaa
open Go.RowKit
set_option linter.unusedSimpArgs false
set_option linter.unusedVariables false

def gotM (M : List (Int × List BK)) (o : OV) (d : List UInt8) (y : Bool) : Bool × List (Int × List BK) :=
  if o.k = 3 then (if (atM M o.a).any (fun x => (⟨true, y, d⟩ : BK) == x) then (true, setM M o.a [⟨true, y, d⟩]) else (false, M)) else (false, M)
set_option maxRecDepth 20000 in
set_option maxHeartbeats 2000000 in
theorem idgot_any (v : Value) (size : Int) (M : List (Int × List BK)) (o : OV) (dv : Value) (rk rc : Int) (rdv : Value) (rd : List UInt8) (y : Bool) (av : Value) (H Fr : HL) (w : World) (h : IsIdeal v size M H) (hM : MOk M) (ha : U64 o.a) (hd : FrBytes Fr rdv rd) (hsm : (atM M o.a).length ≤ 50000) (hH : Holds w (H ++ Fr)) :
    Calls Try.prog 31 #[v, o.agg dv, .agg #[.int .i64 rk, .int .i64 rc, rdv, .bool y, av]] w (RetUpd (fun H' => IsIdeal v size (gotM M o rd y).2 H') (.bool (gotM M o rd y).1) w Fr) := by
  have HI := Lib.hid h
  obtain ⟨b, rfl⟩ := h.ptr
  have hb0 := hd w hH.right
  obtain ⟨A, c, hv⟩ := hb0.val
  subst hv
  have hH1 := ((hH.alloc (.cells #[.int .i64 o.k, .int .u64 o.a, dv, .int .i64 o.m] 31)).alloc (.cells #[.int .i64 rk, .int .i64 rc, .slice A rd.length c, .bool y, av] 34)).alloc (.cells #[.bool true, .bool y, .string ⟨rd.toArray⟩] 71)
  have hg1 := (((Grew.refl w).alloc (.cells #[.int .i64 o.k, .int .u64 o.a, dv, .int .i64 o.m] 31)).alloc (.cells #[.int .i64 rk, .int .i64 rc, .slice A rd.length c, .bool y, av] 34)).alloc (.cells #[.bool true, .bool y, .string ⟨rd.toArray⟩] 71)
  simp only [World.size_alloc] at hH1
  have hcv := conv_str (hd _ ((hH.alloc (.cells #[.int .i64 o.k, .int .u64 o.a, dv, .int .i64 o.m] 31)).alloc (.cells #[.int .i64 rk, .int .i64 rc, .slice A rd.length c, .bool y, av] 34)).tail.tail.right)
  have HAT := Lib.hid (fun (wx : World) (F : HL) (hx : Holds wx (H ++ F)) => idat_any (.pointer (some ⟨b, 0, none⟩)) size M o.a H F wx h hM ha hx)
  have HSET := Lib.hid (fun (lv : Value) (l : List BK) (Hl F : HL) (wx : World) (h1 : IsBks lv l Hl) (h2 : ∀ x ∈ l, x.Ok) (h3 : l ≠ []) (h4 : l.length ≤ 100000) (h5 : Holds wx (Hl ++ (H ++ F))) => idset_any (.pointer (some ⟨b, 0, none⟩)) size M o.a lv l H Hl F wx h hM ha h1 h2 h3 h4 h5)
  have HG3 := Lib.hid (fun (hk : o.k = 3) => show gotM M o rd y = (if (atM M o.a).any (fun x => (⟨true, y, rd⟩ : BK) == x) then (true, setM M o.a [⟨true, y, rd⟩]) else (false, M)) from if_pos hk)
  have HG0 := Lib.hid (fun (hk : ¬ o.k = 3) => show gotM M o rd y = (false, M) from if_neg hk)
  generalize gotM M o rd y = R at *
  clear h hM ha hd hb0
  obtain ⟨k, a, d, m⟩ := o
  simp only [OV.agg] at *
  have hH2 : Holds (((w.alloc (.cells #[.int .i64 k, .int .u64 a, dv, .int .i64 m] 31)).alloc (.cells #[.int .i64 rk, .int .i64 rc, .slice A rd.length c, .bool y, av] 34)).alloc (.cells #[.bool true, .bool y, .string ⟨rd.toArray⟩] 71)) (H ++ ((w.heap.size, .cells #[.int .i64 k, .int .u64 a, dv, .int .i64 m] 31) :: ((w.heap.size + 1 + 1, .cells #[.bool true, .bool y, .string ⟨rd.toArray⟩] 71) :: ((w.heap.size + 1, .cells #[.int .i64 rk, .int .i64 rc, .slice A rd.length c, .bool y, av] 34) :: Fr)))) := hH1.sub (by (repeat' (first | refine sub_append ?_ ?_ | refine sub_cons ?_ ?_ | exact sub_nil)); all_goals first | (intro p hp; simp only [List.mem_append, List.mem_cons, hp, true_or, or_true]) | simp only [List.mem_append, List.mem_cons, true_or, or_true]) (fun b => by simp only [keyc_append, keyc_cons, keyc_nil]; omega)
  have HORD : Hid (∀ (wx : World) (X F : HL), Holds wx (X ++ ((w.heap.size, .cells #[.int .i64 k, .int .u64 a, dv, .int .i64 m] 31) :: ((w.heap.size + 1 + 1, .cells #[.bool true, .bool y, .string ⟨rd.toArray⟩] 71) :: F))) → wx.cell? ⟨w.heap.size, 0, none⟩ = some (.int .i64 k) ∧ wx.cell? ⟨w.heap.size, 1, none⟩ = some (.int .u64 a) ∧ wx.cell? ⟨w.heap.size + 1 + 1, 0, none⟩ = some (.bool true) ∧ wx.cell? ⟨w.heap.size + 1 + 1, 1, none⟩ = some (.bool y) ∧ wx.cell? ⟨w.heap.size + 1 + 1, 2, none⟩ = some (.string ⟨rd.toArray⟩)) := Lib.hid (fun wx X F hX => ⟨hX.right.hcell 0, hX.right.hcell 1, hX.right.tail.hcell 0, hX.right.tail.hcell 1, hX.right.tail.hcell 2⟩)
  clear hH1 hH
  by_cases hk : k = 3
  · have HR := Lib.hid (HG3.out hk)
    subst hk
    clear HG3 HG0
    generalize atM M a = l at *
    have HL5 : Hid (l.length ≤ 50000) := Lib.hid hsm
    clear hsm
    go_enter Try.func31, Try.ntmps31
    go_upto_region 2 with fail
    generalize ((w.alloc (.cells #[.int .i64 3, .int .u64 a, dv, .int .i64 m] 31)).alloc (.cells #[.int .i64 rk, .int .i64 rc, .slice A rd.length c, .bool y, av] 34)).alloc (.cells #[.bool true, .bool y, .string ⟨rd.toArray⟩] 71) = w0 at *
    generalize w.heap.size + 1 + 1 = g7 at *
    generalize w.heap.size + 1 = g5 at *
    generalize w.heap.size = g at *
    refine Z_begin (fun wx => wx.cell? ⟨g, 0, none⟩ = some (.int .i64 3) ∧ wx.cell? ⟨g, 1, none⟩ = some (.int .u64 a) ∧ wx.cell? ⟨g7, 0, none⟩ = some (.bool true) ∧ wx.cell? ⟨g7, 1, none⟩ = some (.bool y) ∧ wx.cell? ⟨g7, 2, none⟩ = some (.string ⟨rd.toArray⟩)) 12 (by kernel_rfl) (fun w1 hd => HORD.out _ _ _ (hH2.dr hd)) (fun w1 hd hs => ?_)
    have hH3 := hH2.dr hd; have hG3 := hg1.trans (Grew.dr hd); clear hd hH2 hg1 hcv
    refine Z_takeD 0 (some 14) (v := ?_) rfl rfl (by kernel_rfl) (fun _ _ _ h => h) (by rfl) hs ?_ ?_
    rotate_left
    · intro wx hx; obtain ⟨s0, s1, s2, s3, s4⟩ := hx; go_simp; try with_reducible rfl
    simp only [Act.put, List.setIfInBounds_toArray, List.set_cons_succ, List.set_cons_zero]
    refine Z_takeD 1 (some 15) (v := ?_) rfl rfl (by kernel_rfl) (fun _ _ _ h => h) (by rfl) hs ?_ ?_
    rotate_left
    · intro wx hx; obtain ⟨s0, s1, s2, s3, s4⟩ := hx; go_simp; try with_reducible rfl
    simp only [Act.put, List.setIfInBounds_toArray, List.set_cons_succ, List.set_cons_zero]
    refine Z_takeD 2 (some 16) (v := ?_) rfl rfl (by kernel_rfl) (fun _ _ _ h => h) (by rfl) hs ?_ ?_
    rotate_left
    · intro wx hx; obtain ⟨s0, s1, s2, s3, s4⟩ := hx; go_simp; try with_reducible rfl
    simp only [Act.put, List.setIfInBounds_toArray, List.set_cons_succ, List.set_cons_zero]
    refine Z_takeD 3 (some 17) (v := ?_) rfl rfl (by kernel_rfl) (fun _ _ _ h => h) (by rfl) hs ?_ ?_
    rotate_left
    · intro wx hx; obtain ⟨s0, s1, s2, s3, s4⟩ := hx; go_simp; try with_reducible rfl
    simp only [Act.put, List.setIfInBounds_toArray, List.set_cons_succ, List.set_cons_zero]
    refine Z_takeD 4 (some 18) (v := ?_) rfl rfl (by kernel_rfl) (fun _ _ _ h => h) (by rfl) hs ?_ ?_
    rotate_left
    · intro wx hx; obtain ⟨s0, s1, s2, s3, s4⟩ := hx; go_simp; try with_reducible rfl
    simp only [Act.put, List.setIfInBounds_toArray, List.set_cons_succ, List.set_cons_zero]
    refine Z_takeD 5 (some 19) (v := ?_) rfl rfl (by kernel_rfl) (fun _ _ _ h => h) (by rfl) hs ?_ ?_
    rotate_left
    · intro wx hx; obtain ⟨s0, s1, s2, s3, s4⟩ := hx; go_simp; try with_reducible rfl
    simp only [Act.put, List.setIfInBounds_toArray, List.set_cons_succ, List.set_cons_zero]
    refine Z_takeD 6 (some 20) (v := ?_) rfl rfl (by kernel_rfl) (fun _ _ _ h => h) (by rfl) hs ?_ ?_
    rotate_left
    · intro wx hx; obtain ⟨s0, s1, s2, s3, s4⟩ := hx; go_simp; try with_reducible rfl
    simp only [Act.put, List.setIfInBounds_toArray, List.set_cons_succ, List.set_cons_zero]
    refine Z_takeD 8 (some 22) (v := ?_) rfl rfl (by kernel_rfl) (fun _ _ _ h => h) (by rfl) hs ?_ ?_
    rotate_left
    · intro wx hx; obtain ⟨s0, s1, s2, s3, s4⟩ := hx; go_simp; try with_reducible rfl
    simp only [Act.put, List.setIfInBounds_toArray, List.set_cons_succ, List.set_cons_zero]
    refine Z_mid 7 rfl (by kernel_rfl) (fun K hK => ?_)
    have ⟨s0, s1, s2, s3, s4⟩ := hs
    go_simp; refine (HAT.out w1 _ hH3).mono ?_; rintro e w2 ⟨v2, H2, rfl, hat, hH4, hg4⟩; have hG4 := hG3.trans hg4; have HV2 := Lib.hid (hat w2 hH4); clear hH3 hG3 hg4 hat   -- call w
    clear s0 s1 s2 s3 s4
    refine hK _ _ (HORD.out _ (H2 ++ H) _ (by simpa using hH4)) (fun hs2 => ?_); clear hK K hs; have hs := hs2; clear hs2
    refine Z_mid 9 rfl (by kernel_rfl) (fun K hK => ?_)
    have ⟨s0, s1, s2, s3, s4⟩ := hs
    go_simp; refine (idhas_any v2 l ⟨true, y, rd⟩ w2 _ HV2.out hH4 (by have := HL5.out; omega)).mono ?_; rintro e w3 ⟨rfl, hH5, hg5⟩; have hG5 := hG4.trans hg5; clear hH4 hG4 hg5   -- call w
    clear s0 s1 s2 s3 s4
    refine hK _ _ (HORD.out _ (H2 ++ H) _ (by simpa using hH5)) (fun hs2 => ?_); clear hK K hs; have hs := hs2; clear hs2
    refine Z_takeD 10 (some 24) (v := ?_) rfl rfl (by kernel_rfl) (fun _ _ _ h => h) (by rfl) hs ?_ ?_
    rotate_left
    · intro wx hx; obtain ⟨s0, s1, s2, s3, s4⟩ := hx; go_simp; try with_reducible rfl
    simp only [Act.put, List.setIfInBounds_toArray, List.set_cons_succ, List.set_cons_zero]
    refine Z_takeD 11 (some 25) (v := ?_) rfl rfl (by kernel_rfl) (fun _ _ _ h => h) (by rfl) hs ?_ ?_
    rotate_left
    · intro wx hx; obtain ⟨s0, s1, s2, s3, s4⟩ := hx; go_simp; try with_reducible rfl
    simp only [Act.put, List.setIfInBounds_toArray, List.set_cons_succ, List.set_cons_zero]
    refine Z_done (by kernel_rfl) ?_ _
    have HH5 := Lib.hid hH5.right
    obtain ⟨q0, q1, q2, q3, q4⟩ := hs
    cases hin : l.any (fun x => (⟨true, y, rd⟩ : BK) == x) with
    | false =>
      rw [hin] at HR
      have HR2 := Lib.hid (HR.out.trans (if_neg (by decide)))
      clear HR hH5 hin
      go_wp2_with fail
      go_ret
      rw [HR2.out]
      exact ⟨rfl, H, HI.out, Holds.mid (B := [_, _, _]) HH5.out, hG5⟩
    | true =>
      rw [hin] at HR
      have HR2 := Lib.hid (HR.out.trans (if_pos rfl))
      have hH6 := HH5.out.alloc (.cells #[.bool true, .bool y, .string ⟨rd.toArray⟩] 71)
      have hg6 := hG5.alloc (.cells #[.bool true, .bool y, .string ⟨rd.toArray⟩] 71)
      have HB := Lib.hid (one_bks (x := ⟨true, y, rd⟩) hH6)
      have HSX := Lib.hid (HSET.out _ [⟨true, y, rd⟩] _ _ _ HB.out (fun x hx => by rw [List.mem_singleton.1 hx]; intro h; cases h) (by simp) (by simp) hH6)
      clear HR hH5 hin HB hH6
      go_wp2_with fail
      refine HSX.out.mono ?_
      rintro e w8 ⟨rfl, H8, hi8, hH8, hg8⟩
      have HI8 := Lib.hid hi8
      clear hi8 HSX q0 q1 q2 q3 q4
      go_wp2_with fail
      go_ret
      rw [HR2.out]
      exact ⟨rfl, H8, HI8.out, Holds.mid (B := [_, _, _]) hH8, hg6.trans hg8⟩
  · have HR := Lib.hid (HG0.out hk)
    clear HG3 HG0
    have hk3 : (k != 3) = true := by simpa using hk
    go_enter Try.func31, Try.ntmps31
    go_upto_region 2 with fail
    generalize ((w.alloc (.cells #[.int .i64 k, .int .u64 a, dv, .int .i64 m] 31)).alloc (.cells #[.int .i64 rk, .int .i64 rc, .slice A rd.length c, .bool y, av] 34)).alloc (.cells #[.bool true, .bool y, .string ⟨rd.toArray⟩] 71) = w0 at *
    generalize w.heap.size + 1 + 1 = g7 at *
    generalize w.heap.size + 1 = g5 at *
    generalize w.heap.size = g at *
    refine Z_begin (fun wx => wx.cell? ⟨g, 0, none⟩ = some (.int .i64 k) ∧ wx.cell? ⟨g, 1, none⟩ = some (.int .u64 a) ∧ wx.cell? ⟨g7, 0, none⟩ = some (.bool true) ∧ wx.cell? ⟨g7, 1, none⟩ = some (.bool y) ∧ wx.cell? ⟨g7, 2, none⟩ = some (.string ⟨rd.toArray⟩)) 12 (by kernel_rfl) (fun w1 hd => HORD.out _ _ _ (hH2.dr hd)) (fun w1 hd hs => ?_)
    have hH3 := hH2.dr hd; have hG3 := hg1.trans (Grew.dr hd); clear hd hH2 hg1 hcv
    refine Z_takeD 0 (some 14) (v := ?_) rfl rfl (by kernel_rfl) (fun _ _ _ h => h) (by rfl) hs ?_ ?_
    rotate_left
    · intro wx hx; obtain ⟨s0, s1, s2, s3, s4⟩ := hx; go_simp; try with_reducible rfl
    simp only [Act.put, List.setIfInBounds_toArray, List.set_cons_succ, List.set_cons_zero]
    refine Z_takeD 1 (some 15) (v := ?_) rfl rfl (by kernel_rfl) (fun _ _ _ h => h) (by rfl) hs ?_ ?_
    rotate_left
    · intro wx hx; obtain ⟨s0, s1, s2, s3, s4⟩ := hx; go_simp; try with_reducible rfl
    simp only [Act.put, List.setIfInBounds_toArray, List.set_cons_succ, List.set_cons_zero]
    refine Z_takeD 2 (some 16) (v := ?_) rfl rfl (by kernel_rfl) (fun _ _ _ h => h) (by rfl) hs ?_ ?_
    rotate_left
    · intro wx hx; obtain ⟨s0, s1, s2, s3, s4⟩ := hx; go_simp; try with_reducible rfl
    simp only [Act.put, List.setIfInBounds_toArray, List.set_cons_succ, List.set_cons_zero]
    refine Z_takeD 3 (some 17) (v := ?_) rfl rfl (by kernel_rfl) (fun _ _ _ h => h) (by rfl) hs ?_ ?_
    rotate_left
    · intro wx hx; obtain ⟨s0, s1, s2, s3, s4⟩ := hx; go_simp; try with_reducible rfl
    simp only [Act.put, List.setIfInBounds_toArray, List.set_cons_succ, List.set_cons_zero]
    refine Z_skipD 4 (some 18) rfl rfl (by kernel_rfl) (fun _ _ _ h => h) (by rfl) hs ?_
    simp only [Act.put, List.setIfInBounds_toArray, List.set_cons_succ, List.set_cons_zero]
    refine Z_skipD 5 (some 19) rfl rfl (by kernel_rfl) (fun _ _ _ h => h) (by rfl) hs ?_
    simp only [Act.put, List.setIfInBounds_toArray, List.set_cons_succ, List.set_cons_zero]
    refine Z_skipD 6 (some 20) rfl rfl (by kernel_rfl) (fun _ _ _ h => h) (by rfl) hs ?_
    simp only [Act.put, List.setIfInBounds_toArray, List.set_cons_succ, List.set_cons_zero]
    refine Z_skipD 8 (some 22) rfl rfl (by kernel_rfl) (fun _ _ _ h => h) (by rfl) hs ?_
    simp only [Act.put, List.setIfInBounds_toArray, List.set_cons_succ, List.set_cons_zero]
    refine Z_skipD 7 (some 21) rfl rfl (by kernel_rfl) (fun _ _ _ h => h) (by rfl) hs ?_
    simp only [Act.put, List.setIfInBounds_toArray, List.set_cons_succ, List.set_cons_zero]
    refine Z_skipD 9 (some 23) rfl rfl (by kernel_rfl) (fun _ _ _ h => h) (by rfl) hs ?_
    simp only [Act.put, List.setIfInBounds_toArray, List.set_cons_succ, List.set_cons_zero]
    refine Z_skipD 10 (some 24) rfl rfl (by kernel_rfl) (fun _ _ _ h => h) (by rfl) hs ?_
    simp only [Act.put, List.setIfInBounds_toArray, List.set_cons_succ, List.set_cons_zero]
    refine Z_takeD 11 (some 25) (v := ?_) rfl rfl (by kernel_rfl) (fun _ _ _ h => h) (by rfl) hs ?_ ?_
    rotate_left
    · intro wx hx; obtain ⟨s0, s1, s2, s3, s4⟩ := hx; go_simp; try with_reducible rfl
    simp only [Act.put, List.setIfInBounds_toArray, List.set_cons_succ, List.set_cons_zero]
    refine Z_done (by kernel_rfl) ?_ _
    have HH3 := Lib.hid hH3
    clear hs hH3
    go_wp2_with fail
    go_ret
    rw [HR.out]
    exact ⟨rfl, H, HI.out, Holds.mid (B := [_, _, _]) HH3.out, hG3⟩
end Go.Proofs.Ytinfbpldgobmfaa
