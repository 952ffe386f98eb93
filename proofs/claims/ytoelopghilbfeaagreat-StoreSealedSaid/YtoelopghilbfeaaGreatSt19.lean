/-
  Package store: blocks, Room.
-/
import Derived.Test.YtoelopghilbfeaaGreatSt18
namespace Go.Proofs.YtoelopghilbfeaaGreat
open Go.RowKit
set_option linter.unusedSimpArgs false
set_option linter.unusedVariables false

variable {b cb g cap : Nat} {mv : Value} {c : CM} {s : SM} {H Hc Fr : HL} {w : World}
def numsTo (k : Nat) : List Int := (List.range k).map fun i : Nat => (i : Int)
theorem numsTo_succ (k : Nat) : numsTo (k + 1) = numsTo k ++ [(k : Int)] := by
  unfold numsTo
  rw [List.range_succ, List.map_append]
  rfl
theorem numsTo_len (k : Nat) : (numsTo k).length = k := by simp [numsTo]
set_option maxRecDepth 20000 in
set_option maxHeartbeats 2000000 in
theorem blocks_any (h : StAt b cb s H) (hH : Holds w (H ++ Fr)) : Calls Tryz.prog 59 #[.pointer (some ⟨b, 0, none⟩)] w (RetNew (fun v H' => IsNums v (numsTo s.B) H') w (H ++ Fr)) := by
  have hpb := plan_bd h.plan
  obtain ⟨yb, mb, hcl⟩ := h.cells
  obtain ⟨x0, x1, x2, x3, x4, x5, x6⟩ := hcl w _ hH
  have hg0 := Grew.refl w
  generalize s.B = n at *
  clear h hcl
  go_enter Tryz.func59, Tryz.ntmps59
  go_wp2_with fail
  go_loopw [3, 10] (fun out i wr => NdsTo numsTo n w (H ++ Fr) out i wr) (fun _ i _ => n - (intOf i).toNat)
  case atStart => exact ⟨0, [], by omega, rfl, IsRow.nil _ _, hH, hg0⟩
  case round =>
    clear hH hg0 x0 x1 x2 x3 x4 x5 x6
    obtain ⟨k, Ho, hk, rfl, ho, hHr, hgr⟩ := hrel
    have HOU := Lib.hid ho
    clear ho
    by_cases hlt : k < n
    · have hkn : (k : Int) < (n : Int) := by omega
      have HSU := Lib.hid (numsTo_succ k)
      have HLN := Lib.hid (show (numsTo k).length ≤ 32 by rw [numsTo_len]; omega)
      generalize numsTo k = ot at *
      go_wp2_with (at_builtin; refine wpList_append_T tInts (by rfl) (.tmp 13) (.tmp 15) (by rfl) (by rfl) (by rfl) HOU.out (hHr.alloc' _) ReadsAt.one (by simp [Value.oneCell']) (by have := HLN.out; simp only [maxLen]; omega) (by have := HLN.out; omega) ?_; intro A' c' w' H' hrow hH9 hg9)
      go_roundw
      case rel =>
        refine ⟨k + 1, H', by omega, by go_num, ?_, hH9, (hgr.alloc _).trans hg9⟩
        rw [HSU.out]
        unfold IsNums
        rw [List.length_append, List.map_append]
        exact hrow
      case measure => simp only [intOf]; omega
    · obtain rfl : k = n := by omega
      have hkn : ¬ (k : Int) < (k : Int) := by omega
      have HHR := Lib.hid hHr
      clear hHr
      go_wp2_with fail
      go_ret
      exact ⟨_, Ho, rfl, HOU.out, HHR.out, hgr⟩
def roomS (s : SM) (c : CM) : Int := leftI s c + s.P * (emptyL s c).length
set_option maxRecDepth 20000 in
theorem room_nil (w : World) : Calls Tryz.prog 29 #[.pointer none] w (fun e w' => e = .returned (.int .i64 0) ∧ w = w') := by
  go_enter Tryz.func29, Tryz.ntmps29
  go_wp2_with fail
  go_ret
  exact ⟨rfl, rfl⟩
set_option maxRecDepth 20000 in
theorem bad_nil (w : World) (Fr : HL) (hH : Holds w Fr) : Calls Tryz.prog 25 #[.pointer none] w (RetFr (.int .i64 0) w Fr) := by
  have hH1 := hH.alloc' (.cells #[.pointer none] 28)
  have hg1 := (Grew.refl w).alloc (.cells #[.pointer none] 28)
  clear hH
  go_enter Tryz.func25, Tryz.ntmps25
  go_wp2_with fail
  go_ret
  exact ⟨rfl, hH1, hg1⟩
set_option maxRecDepth 20000 in
set_option maxHeartbeats 4000000 in
theorem room_any (h : StAt b cb s H) (hch : ChipAt cb g cap mv c Hc) (hH : Holds w (H ++ (Hc ++ Fr))) (hB : s.B < 20) : Calls Tryz.prog 29 #[.pointer (some ⟨b, 0, none⟩)] w (RetFr (.int .i64 (roomS s c)) w (H ++ (Hc ++ Fr))) := by
  have hpb := plan_bd h.plan
  obtain ⟨yb, mb, hcl⟩ := h.cells
  have HCL := Lib.hid hcl
  have HLF := Lib.hid (fun (wx : World) (hx : Holds wx (H ++ (Hc ++ Fr))) => left_any h hch hx)
  have HEM := Lib.hid (fun (wx : World) (hx : Holds wx (H ++ (Hc ++ Fr))) => empty_any h hch hx hB)
  have hel := emptyL_len s c
  have hlf : -8 ≤ leftI s c ∧ leftI s c ≤ 8 := by
    have := next_bd hch.cok s.op
    unfold leftI
    split <;> omega
  have hmb : 0 ≤ (s.P : Int) * (emptyL s c).length ∧ (s.P : Int) * (emptyL s c).length ≤ 256 := by
    constructor
    · exact Int.mul_nonneg (by omega) (by omega)
    · have := Int.mul_le_mul (show (s.P : Int) ≤ 8 by omega) (show ((emptyL s c).length : Int) ≤ 32 by omega) (by omega) (by omega)
      omega
  have HRE := Lib.hid (show roomS s c = leftI s c + s.P * (emptyL s c).length from rfl)
  generalize roomS s c = res at *
  generalize leftI s c = lz at *
  generalize emptyL s c = L at *
  have hw1 : IntKind.i64.wrap ((s.P : Int) * (L.length : Int)) = (s.P : Int) * (L.length : Int) := wrap_i64_id (by omega) (by omega)
  have hw2 : IntKind.i64.wrap (lz + (s.P : Int) * (L.length : Int)) = lz + (s.P : Int) * (L.length : Int) := wrap_i64_id (by omega) (by omega)
  have hw3 : wrap64 ((s.P : Int) * (L.length : Int)) = (s.P : Int) * (L.length : Int) := by unfold wrap64; omega
  have hw4 : wrap64 (lz + (s.P : Int) * (L.length : Int)) = lz + (s.P : Int) * (L.length : Int) := by unfold wrap64; omega
  have hg0 := Grew.refl w
  clear h hch hcl hB
  go_enter Tryz.func29, Tryz.ntmps29
  go_upto_region 3 with fail
  refine Z_begin (fun wx => wx.cell? ⟨b, 2, none⟩ = some (.int .i64 (s.B : Int)) ∧ wx.cell? ⟨b, 3, none⟩ = some (.int .i64 (s.P : Int))) 13 (by kernel_rfl) (fun w1 hd => ⟨(HCL.out _ _ (hH.dr hd)).2.2.1, (HCL.out _ _ (hH.dr hd)).2.2.2.1⟩) (fun w1 hd hs => ?_)
  have hHc := hH.dr hd; have hGc := hg0.trans (Grew.dr hd); clear hd hH hg0
  refine Z_takeD 0 (some 5) (v := ?_) rfl rfl (by kernel_rfl) (fun _ _ _ h => h) (by rfl) hs ?_ ?_
  rotate_left
  · intro wx hx; obtain ⟨s2, s3⟩ := hx; go_simp; try with_reducible rfl
  simp only [Act.put, List.setIfInBounds_toArray, List.set_cons_succ, List.set_cons_zero]
  refine Z_takeD 2 (some 7) (v := ?_) rfl rfl (by kernel_rfl) (fun _ _ _ h => h) (by rfl) hs ?_ ?_
  rotate_left
  · intro wx hx; obtain ⟨s2, s3⟩ := hx; go_simp; try with_reducible rfl
  simp only [Act.put, List.setIfInBounds_toArray, List.set_cons_succ, List.set_cons_zero]
  refine Z_takeD 3 (some 8) (v := ?_) rfl rfl (by kernel_rfl) (fun _ _ _ h => h) (by rfl) hs ?_ ?_
  rotate_left
  · intro wx hx; obtain ⟨s2, s3⟩ := hx; go_simp; try with_reducible rfl
  simp only [Act.put, List.setIfInBounds_toArray, List.set_cons_succ, List.set_cons_zero]
  refine Z_takeD 4 (some 9) (v := ?_) rfl rfl (by kernel_rfl) (fun _ _ _ h => h) (by rfl) hs ?_ ?_
  rotate_left
  · intro wx hx; obtain ⟨s2, s3⟩ := hx; go_simp; try with_reducible rfl
  simp only [Act.put, List.setIfInBounds_toArray, List.set_cons_succ, List.set_cons_zero]
  refine Z_takeD 5 (some 10) (v := ?_) rfl rfl (by kernel_rfl) (fun _ _ _ h => h) (by rfl) hs ?_ ?_
  rotate_left
  · intro wx hx; obtain ⟨s2, s3⟩ := hx; go_simp; try with_reducible rfl
  simp only [Act.put, List.setIfInBounds_toArray, List.set_cons_succ, List.set_cons_zero]
  refine Z_takeD 6 (some 11) (v := ?_) rfl rfl (by kernel_rfl) (fun _ _ _ h => h) (by rfl) hs ?_ ?_
  rotate_left
  · intro wx hx; obtain ⟨s2, s3⟩ := hx; go_simp; try with_reducible rfl
  simp only [Act.put, List.setIfInBounds_toArray, List.set_cons_succ, List.set_cons_zero]
  refine Z_takeD 7 (some 12) (v := ?_) rfl rfl (by kernel_rfl) (fun _ _ _ h => h) (by rfl) hs ?_ ?_
  rotate_left
  · intro wx hx; obtain ⟨s2, s3⟩ := hx; go_simp; try with_reducible rfl
  simp only [Act.put, List.setIfInBounds_toArray, List.set_cons_succ, List.set_cons_zero]
  refine Z_mid 1 rfl (by kernel_rfl) (fun K hK => ?_)
  have ⟨s2, s3⟩ := hs
  go_simp; refine (HLF.out w1 hHc).mono ?_; rintro e w4 ⟨rfl, q, rfl⟩; have hHd := hHc.drewN q; have hGd := hGc.drewN q; clear hHc hGc; generalize w1.drewN q = w4 at *   -- call w
  clear s2 s3
  refine hK _ _ (⟨(HCL.out _ _ (hHd)).2.2.1, (HCL.out _ _ (hHd)).2.2.2.1⟩) (fun hs2 => ?_); clear hK K hs; have hs := hs2; clear hs2
  refine Z_mid 8 rfl (by kernel_rfl) (fun K hK => ?_)
  have ⟨s2, s3⟩ := hs
  go_simp; refine (HEM.out w4 hHd).mono ?_; rintro e w5 ⟨v5, H5, rfl, hv5, hHe, hge⟩; have hHf : Holds w5 (H ++ (Hc ++ Fr)) := hHe.right; have hGf := hGd.trans hge; obtain ⟨A5, c5, rfl⟩ := hv5.val; clear hHd hGd hv5 hHe hge   -- call w
  clear s2 s3
  refine hK _ _ (⟨(HCL.out _ _ (hHf)).2.2.1, (HCL.out _ _ (hHf)).2.2.2.1⟩) (fun hs2 => ?_); clear hK K hs; have hs := hs2; clear hs2
  refine Z_takeD 9 (some 14) (v := ?_) rfl rfl (by kernel_rfl) (fun _ _ _ h => h) (by rfl) hs ?_ ?_
  rotate_left
  · intro wx hx; obtain ⟨s2, s3⟩ := hx; go_simp; try with_reducible rfl
  simp only [Act.put, List.setIfInBounds_toArray, List.set_cons_succ, List.set_cons_zero]
  refine Z_takeD 10 (some 15) (v := ?_) rfl rfl (by kernel_rfl) (fun _ _ _ h => h) (by rfl) hs ?_ ?_
  rotate_left
  · intro wx hx; obtain ⟨s2, s3⟩ := hx; go_simp; try with_reducible rfl
  simp only [Act.put, List.setIfInBounds_toArray, List.set_cons_succ, List.set_cons_zero]
  refine Z_takeD 11 (some 16) (v := ?_) rfl rfl (by kernel_rfl) (fun _ _ _ h => h) (by rfl) hs ?_ ?_
  rotate_left
  · intro wx hx; obtain ⟨s2, s3⟩ := hx; go_simp; try with_reducible rfl
  simp only [Act.put, List.setIfInBounds_toArray, List.set_cons_succ, List.set_cons_zero]
  refine Z_takeD 12 (some 2) (v := ?_) rfl rfl (by kernel_rfl) (fun _ _ _ h => h) (by rfl) hs ?_ ?_
  rotate_left
  · intro wx hx; obtain ⟨s2, s3⟩ := hx; go_simp; try with_reducible rfl
  simp only [Act.put, List.setIfInBounds_toArray, List.set_cons_succ, List.set_cons_zero]
  refine Z_done (by kernel_rfl) ?_ _
  clear hs hw1 hw2 hw3 hw4 hmb hlf
  generalize lz + (s.P : Int) * (L.length : Int) = rr at *
  go_wp2_with fail
  go_ret
  rw [HRE.out]
  exact ⟨rfl, hHf, hGf⟩
end Go.Proofs.YtoelopghilbfeaaGreat
