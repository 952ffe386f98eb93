/-
  Package scullerylaw22: awake.
-/
import Derived.Test.YtdbcmjambajffaaTd3
namespace Go.Proofs.Ytdbcmjambajffaa
open Go.RowKit
set_option linter.unusedSimpArgs false
set_option linter.unusedVariables false

theorem once_a : onceU [4, 2, 3] = [2, 3, 4] := onceU_eq (by decide) (by intro x; simp; omega)
theorem once_b : onceU [1, 9, 5] = [1, 5, 9] := onceU_eq (by decide) (by intro x; simp; omega)
theorem runs_a : runsU (onceU [4, 2, 3]) = [(2, 3)] := by rw [once_a]; decide
theorem pick_b : pickU 2 5 [1, 9, 5] = [5, 9] := by unfold pickU; rw [once_b]; decide

set_option maxRecDepth 20000 in
set_option maxHeartbeats 1000000 in
theorem awake22_any (w : World) (Fr : HL) (hH : Holds w Fr) : Calls Try.prog 7 #[] w (RetFr (.bool true) w Fr) := by
  have hWa : ∀ wx : World, WsAt (wx.alloc (.cells #[.int .u64 4, .int .u64 2, .int .u64 3] 22)) (.slice (some ⟨wx.heap.size, 0, none⟩) 3 3) [4, 2, 3] := fun wx => ReadsAt.many (n := 3) (size := 1) (cs := #[.int .u64 4, .int .u64 2, .int .u64 3]) (by rfl) (by simp [maxLen])
  have hWb : ∀ wx : World, WsAt (wx.alloc (.cells #[.int .u64 1, .int .u64 9, .int .u64 5] 22)) (.slice (some ⟨wx.heap.size, 0, none⟩) 3 3) [1, 9, 5] := fun wx => ReadsAt.many (n := 3) (size := 1) (cs := #[.int .u64 1, .int .u64 9, .int .u64 5]) (by rfl) (by simp [maxLen])
  have hWc : ∀ wx : World, WsAt (wx.alloc (.cells #[.int .u64 5, .int .u64 9] 22)) (.slice (some ⟨wx.heap.size, 0, none⟩) 2 2) [5, 9] := fun wx => ReadsAt.many (n := 2) (size := 1) (cs := #[.int .u64 5, .int .u64 9]) (by rfl) (by simp [maxLen])
  have hWd : ∀ wx : World, WsAt (wx.alloc (.cells #[.int .u64 9] 22)) (.slice (some ⟨wx.heap.size, 0, none⟩) 1 1) [9] := fun wx => ReadsAt.many (n := 1) (size := 1) (cs := #[.int .u64 9]) (by rfl) (by simp [maxLen])
  have hWe : ∀ wx : World, WsAt wx (.slice none 0 0) [] := fun wx => ⟨rfl, none, 0, rfl, by simp, by simp, fun h => absurd h (by simp)⟩
  have HWa := Lib.hid hWa
  have HWb := Lib.hid hWb
  have HWc := Lib.hid hWc
  have HWd := Lib.hid hWd
  have HWe := Lib.hid hWe
  clear hWa hWb hWc hWd hWe
  have HRa := Lib.hid (runs_any _ [4, 2, 3] _ _ (HWa.out w) (hH.alloc _) (by simp) (by intro x hx; simp at hx; omega))
  go_enter Try.func7, Try.ntmps7
  go_wp2_with fail
  refine HRa.out.mono ?_
  rintro e w1 ⟨v1, H1, rfl, h1, hH1, hg1⟩
  clear HRa
  rw [runs_a] at h1
  obtain ⟨hl1, ⟨_, h0, _⟩ | ⟨g, cap, cur, fz, rfl, hn, hc, hs, ht, hf, rfl⟩⟩ := h1
  · simp at h0
  have hcur : cur.toList.take 2 = [.int .u64 2, .int .i64 3] := ht
  have k0 : cur[0]? = some (.int .u64 2) := by rw [← Array.getElem?_toList]; have := congrArg (·[0]?) hcur; simpa [List.getElem?_take] using this
  have k1 : cur[1]? = some (.int .i64 3) := by rw [← Array.getElem?_toList]; have := congrArg (·[1]?) hcur; simpa [List.getElem?_take] using this
  have HK := Lib.hid (And.intro k0 k1)
  clear k0 k1 hcur ht hl1 hf hs hn
  have HRb := Lib.hid (pick_any 2 5 _ [1, 9, 5] _ _ (HWb.out w1) (hH1.alloc _) (by simp))
  go_wp2_with fail
  refine HRb.out.mono ?_
  rintro e w2 ⟨v2, H2, rfl, h2, hH2, hg2⟩
  clear HRb
  rw [pick_b] at h2
  have HR2 := Lib.hid h2
  obtain ⟨A2, c2, rfl⟩ := h2.val
  clear h2
  have HRc := Lib.hid (same64_any _ _ [5, 9] [5, 9] _ ((HR2.out.at_ hH2).keep (fun p u hu => by rw [World.cell?_alloc_lt w2 _ p (World.block_lt_of_cell? w2 p hu)]; exact hu)) (HWc.out w2))
  go_wp2_with fail
  refine HRc.out.mono ?_
  rintro e w3 ⟨rfl, q, rfl⟩
  clear HRc
  have hH3 := (hH2.alloc (.cells #[.int .u64 5, .int .u64 9] 22)).drewN q
  have hg3 : Grew w ((w2.alloc (.cells #[.int .u64 5, .int .u64 9] 22)).drewN q) := ((((((Grew.refl w).alloc _).trans hg1).alloc _).trans hg2).alloc _).drewN q
  generalize (w2.alloc (.cells #[.int .u64 5, .int .u64 9] 22)).drewN q = w3 at *
  have hHx : Holds w3 ((g, .cells cur 36 fz) :: Fr) := hH3.sub (by (repeat' (first | refine sub_append ?_ ?_ | refine sub_cons ?_ ?_ | exact sub_nil)); all_goals first | (intro p hp; simp only [List.mem_append, List.mem_cons, hp, true_or, or_true]) | simp only [List.mem_append, List.mem_cons, true_or, or_true]) (fun b => by simp only [keyc_append, keyc_cons, keyc_nil]; omega)
  have d0 : w3.cell? ⟨g, 0, none⟩ = some (.int .u64 2) := (hHx.hcell 0).trans HK.out.1
  have d1 : w3.cell? ⟨g, 1, none⟩ = some (.int .i64 3) := (hHx.hcell 1).trans HK.out.2
  have hov : overB 3 4 70 = true := by decide
  have HRd := Lib.hid (tdover_any 3 4 70 w3 _ hHx)
  rw [hov] at HRd
  go_wp2_with fail
  refine HRd.out.mono ?_
  rintro e w4 ⟨rfl, hH4, hg4⟩
  clear HRd
  have HRe := Lib.hid (tdbehind_any 7 _ [] w4 (HWe.out w4))
  go_wp2_with fail
  refine HRe.out.mono ?_
  rintro e w5 ⟨rfl, rfl⟩
  clear HRe
  have hb0 : behindU 7 [] = 7 := rfl
  have HRf := Lib.hid (tdbehind_any 7 _ [9] _ (HWd.out w4))
  have hb1 : behindU 7 [9] = 10 := by decide
  rw [hb1] at HRf
  rw [hb0]
  go_wp2_with fail
  refine HRf.out.mono ?_
  rintro e w5 ⟨rfl, rfl⟩
  clear HRf
  go_wp2_with fail
  go_ret
  exact ⟨rfl, (hH4.alloc _).sub (by (repeat' (first | refine sub_append ?_ ?_ | refine sub_cons ?_ ?_ | exact sub_nil)); all_goals first | (intro p hp; simp only [List.mem_append, List.mem_cons, hp, true_or, or_true]) | simp only [List.mem_append, List.mem_cons, true_or, or_true]) (fun b => by simp only [keyc_append, keyc_cons, keyc_nil]; omega), (hg3.trans hg4).alloc _⟩

/-- TidyOver -/
theorem over_plain {L P m : Int} (hL : 0 ≤ L ∧ L < 10000) (hP : 0 ≤ P ∧ P < 201) (hm : 0 ≤ m ∧ m < 1000) :
    overB (L * P / 100) L P = false ∧ overB (L * P / 100 + 1) L P = true ∧ (overB m L P = false → overB m (L + 1) P = false) ∧ overB (-1) L P = false := by
  have h0 : 0 ≤ L * P := Int.mul_nonneg hL.1 hP.1
  have h1 : L * P ≤ 9999 * 200 := Int.mul_le_mul (by omega) (by omega) hP.1 (by omega)
  have hc : P * L = L * P := Int.mul_comm _ _
  have hc2 : P * (L + 1) = L * P + P := by rw [Int.mul_add, hc, Int.mul_one]
  unfold overB
  rw [hc, hc2]
  generalize L * P = q at *
  refine ⟨decide_eq_false ?_, decide_eq_true ?_, fun h => ?_, decide_eq_false ?_⟩
  · rintro ⟨_, _, _, h⟩; omega
  · exact ⟨by omega, by omega, by omega, by omega⟩
  · have h2 := of_decide_eq_false h
    refine decide_eq_false ?_
    rintro ⟨_, _, _, h3⟩
    exact h2 ⟨by omega, by omega, by omega, by omega⟩
  · rintro ⟨h, _⟩; omega
set_option maxRecDepth 20000 in
set_option maxHeartbeats 1000000 in
theorem tidyOver_walk (l p m : Int) (w : World) : Calls Try.prog 5 #[.int .i64 l, .int .i64 p, .int .i64 m] w (RetFr (.bool true) w (allOf w)) := by
  have hL := low_bd l 10000 (by omega) (by omega)
  have hP := low_bd p 201 (by omega) (by omega)
  have hM := low_bd m 1000 (by omega) (by omega)
  have HL1 := Lib.hid (fun wx => low_any l 10000 wx (by omega) (by omega))
  have HL2 := Lib.hid (fun wx => low_any p 201 wx (by omega) (by omega))
  have HL3 := Lib.hid (fun wx => low_any m 1000 wx (by omega) (by omega))
  have hpl := over_plain hL hP hM
  have h0 : 0 ≤ lowI l 10000 * lowI p 201 := Int.mul_nonneg hL.1 hP.1
  have h1 : lowI l 10000 * lowI p 201 ≤ 9999 * 200 := Int.mul_le_mul (by omega) (by omega) hP.1 (by omega)
  generalize lowI l 10000 = L at *
  generalize lowI p 201 = P at *
  generalize lowI m 1000 = M at *
  obtain ⟨p1, p2, p3, p4⟩ := hpl
  have HP3 := Lib.hid p3
  clear p3
  have HV := Lib.hid (fun (a b c : Int) (wx : World) (hx : Holds wx (allOf w)) => tdover_any a b c wx _ hx)
  have hH := holds_all w
  have hw1 : wrap64 (L * P) = L * P := by unfold wrap64; omega
  go_enter Try.func5, Try.ntmps5
  go_wp2_with fail
  refine (HL1.out _).mono ?_
  rintro e w1 ⟨rfl, rfl⟩
  go_wp2_with fail
  refine (HL2.out _).mono ?_
  rintro e w1 ⟨rfl, rfl⟩
  go_wp2_with fail
  refine (HL3.out _).mono ?_
  rintro e w1 ⟨rfl, rfl⟩
  clear HL1 HL2 HL3
  go_wp2_with fail
  refine (HV.out _ _ _ _ hH).mono ?_
  rintro e w2 ⟨rfl, hH2, hg2⟩
  rw [p1]
  go_wp2_with fail
  refine (HV.out _ _ _ _ hH2).mono ?_
  rintro e w3 ⟨rfl, hH3, hg3⟩
  rw [p2]
  go_wp2_with fail
  refine (HV.out _ _ _ _ hH3).mono ?_
  rintro e w4 ⟨rfl, hH4, hg4⟩
  cases hov : overB M L P with
  | true =>
    clear hov
    go_wp2_with fail
    refine (HV.out _ _ _ _ hH4).mono ?_
    rintro e w5 ⟨rfl, hH5, hg5⟩
    rw [p4]
    go_wp2_with fail
    refine (awake22_any _ _ hH5).mono ?_
    rintro e w6 ⟨rfl, hH6, hg6⟩
    go_wp2_with fail
    go_ret
    exact ⟨rfl, hH6, (((hg2.trans hg3).trans hg4).trans hg5).trans hg6⟩
  | false =>
    have p3 := HP3.out hov
    clear hov
    go_wp2_with fail
    refine (HV.out _ _ _ _ hH4).mono ?_
    rintro e w5 ⟨rfl, hH5, hg5⟩
    rw [p3]
    go_wp2_with fail
    refine (HV.out _ _ _ _ hH5).mono ?_
    rintro e w6 ⟨rfl, hH6, hg6⟩
    rw [p4]
    go_wp2_with fail
    refine (awake22_any _ _ hH6).mono ?_
    rintro e w7 ⟨rfl, hH7, hg7⟩
    go_wp2_with fail
    go_ret
    exact ⟨rfl, hH7, ((((hg2.trans hg3).trans hg4).trans hg5).trans hg6).trans hg7⟩
end Go.Proofs.Ytdbcmjambajffaa
