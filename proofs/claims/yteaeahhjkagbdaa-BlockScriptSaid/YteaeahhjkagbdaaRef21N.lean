/-
  sculleryref21's New.
-/
import Derived.Test.YteaeahhjkagbdaaRef21
import Derived.Test.YteaeahhjkagbdaaRows3
import Derived.Test.YteaeahhjkagbdaaBlk2
namespace Go.Proofs.Yteaeahhjkagbdaa
open Go.RowKit
set_option linter.unusedVariables false
set_option linter.unusedSimpArgs false

def RNewTo (b z : Nat) (n : Nat) (w : World) (Fr : HL) (iv : Value) (wr : World) : Prop :=
  ∃ (k : Nat) (H : HL), k ≤ n ∧ iv = .int .i64 k ∧ IsRM (.pointer (some ⟨b, 0, none⟩)) (BM.new k z) H ∧ Holds wr (H ++ Fr) ∧ Grew w wr

set_option maxRecDepth 20000 in
set_option maxHeartbeats 1000000 in
theorem rnew_good (n z : Nat) (Fr : HL) (w : World) (hH : Holds w Fr) (hn1 : 1 ≤ n) (hn2 : n ≤ 256) (hz1 : 128 ≤ z) (hz2 : z ≤ 256) :
    Calls Try.prog 16 #[.int .i64 (n : Int), .int .i64 (z : Int)] w (RetNew (fun v H => IsRM v (BM.new n z) H) w Fr) := by
  obtain ⟨zs, hzs, hzn, hmk⟩ := make_bytes z (by omega)
  have HZS := Lib.hid hzs; clear hzs
  have HZN := Lib.hid hzn; clear hzn
  go_enter Try.func16, Try.ntmps16
  go_wp2
  go_loopw [6] (fun i wr => RNewTo w.heap.size z n w Fr i wr) (fun i _ => n - (intOf i).toNat)
  case atStart =>
    exact ⟨0, [(w.heap.size, .cells #[.slice none 0 0, .int .i64 (z : Int), .bool false] 45)], by omega, rfl, ⟨w.heap.size, _, [], rfl, Rows2.nil _ _ _, rfl⟩, hH.alloc _, (Grew.refl w).alloc _⟩
  case round =>
    obtain ⟨k, H, hk, rfl, hm, hH1, hg⟩ := hrel
    have HM := Lib.hid hm
    by_cases hlt : k < n
    · obtain ⟨b, mv, Hm, hb, hr, rfl⟩ := hm
      obtain rfl : w.heap.size = b := by injection hb with hb; injection hb with hb; injection hb
      have hlen : (BM.new k z).may.length = k := by simp [BM.new]
      obtain ⟨A, c, rfl, hlc, hcm⟩ := hr.val
      rw [hlen] at hr hlc hH1 HM
      obtain ⟨cells, H0, Hq, rfl, hrow, hadd⟩ := Rows2.parts2 hr
      rw [hlen] at hrow hadd
      have hB : Holds wr (H0 ++ (Hq ++ ((w.heap.size, .cells #[.slice A k c, .int .i64 (BM.new k z).size, .bool (BM.new k z).given] 45) :: Fr))) := hH1.sub (fun p hp => by simp only [List.mem_append, List.mem_cons, List.not_mem_nil, or_false] at hp ⊢; grind) (fun b => by simp only [keyc_append, keyc_cons, keyc_nil]; omega)
      have hS : ∀ (wx : World) (J : List (Nat × Obj)), Holds wx (J ++ ((w.heap.size, .cells #[.slice A k c, .int .i64 (BM.new k z).size, .bool (BM.new k z).given] 45) :: Fr)) → wx.cell? ⟨w.heap.size, 0, none⟩ = some (.slice A k c) ∧ wx.frozen? ⟨w.heap.size, 0, none⟩ = false :=
        fun wx J hx => ⟨hx.right.hcell 0, hx.right.hfrozen 0⟩
      have HS := Lib.hid hS; clear hS
      have HROW := Lib.hid hrow
      have HADD := Lib.hid hadd
      clear hr hadd hb hrow hH1 HM
      go_wp2
      refine Z_begin (fun wx => wx.cell? ⟨w.heap.size, 0, none⟩ = some (.slice A k c) ∧ wx.frozen? ⟨w.heap.size, 0, none⟩ = false) 12 (by kernel_rfl) (fun w1 hd => HS.out _ (H0 ++ Hq) (by simpa [List.append_assoc] using hB.dr hd)) (fun w1 hd hs => ?_)
      have hC := hB.dr hd; have hG := hg.trans (Grew.dr hd); clear hd hB
      refine Z_takeD 0 (some 29) (v := ?_) rfl rfl (by kernel_rfl) (fun _ _ _ h => h) (by rfl) hs ?_ ?_
      rotate_left
      · intro wx hx; obtain ⟨x1, x2⟩ := hx; go_simp; try with_reducible rfl
      simp only [Act.put, List.setIfInBounds_toArray, List.set_cons_succ, List.set_cons_zero]
      refine Z_takeD 1 (some 30) (v := ?_) rfl rfl (by kernel_rfl) (fun _ _ _ h => h) (by rfl) hs ?_ ?_
      rotate_left
      · intro wx hx; obtain ⟨x1, x2⟩ := hx; go_simp; try with_reducible rfl
      simp only [Act.put, List.setIfInBounds_toArray, List.set_cons_succ, List.set_cons_zero]
      refine Z_takeD 2 (some 31) (v := ?_) rfl rfl (by kernel_rfl) (fun _ _ _ h => h) (by rfl) hs ?_ ?_
      rotate_left
      · intro wx hx; obtain ⟨x1, x2⟩ := hx; go_simp; try with_reducible rfl
      simp only [Act.put, List.setIfInBounds_toArray, List.set_cons_succ, List.set_cons_zero]
      refine Z_takeD 3 (some 32) (v := ?_) rfl rfl (by kernel_rfl) (fun _ _ _ h => h) (by rfl) hs ?_ ?_
      rotate_left
      · intro wx hx; obtain ⟨x1, x2⟩ := hx; go_simp; try with_reducible rfl
      simp only [Act.put, List.setIfInBounds_toArray, List.set_cons_succ, List.set_cons_zero]
      refine Z_takeD 4 (some 33) (v := ?_) rfl rfl (by kernel_rfl) (fun _ _ _ h => h) (by rfl) hs ?_ ?_
      rotate_left
      · intro wx hx; obtain ⟨x1, x2⟩ := hx; go_simp; try with_reducible rfl
      simp only [Act.put, List.setIfInBounds_toArray, List.set_cons_succ, List.set_cons_zero]
      refine Z_takeD 5 (some 34) (v := ?_) rfl rfl (by kernel_rfl) (fun _ _ _ h => h) (by rfl) hs ?_ ?_
      rotate_left
      · intro wx hx; obtain ⟨x1, x2⟩ := hx; go_simp; try with_reducible rfl
      simp only [Act.put, List.setIfInBounds_toArray, List.set_cons_succ, List.set_cons_zero]
      refine Z_mid 6 rfl (by kernel_rfl) (fun K hK => ?_)
      have ⟨x1, x2⟩ := hs
      go_simp   -- makeSlice w
      clear x1 x2
      refine hK _ _ (HS.out _ (_ :: (H0 ++ Hq)) (by simpa [List.append_assoc] using hC.alloc _)) (fun hs2 => ?_); clear hK K hs; have hs := hs2; clear hs2
      refine Z_mid 7 rfl (by kernel_rfl) (fun K hK => ?_)
      have ⟨x1, x2⟩ := hs
      go_simp   -- buildSlice w
      clear x1 x2
      refine hK _ _ (HS.out _ (_ :: _ :: (H0 ++ Hq)) (by simpa [List.append_assoc] using (hC.alloc _).alloc _)) (fun hs2 => ?_); clear hK K hs; have hs := hs2; clear hs2
      refine Z_mid 8 rfl (by kernel_rfl) (fun K hK => ?_)
      have ⟨x1, x2⟩ := hs
      go_simp   -- buildSlice w
      clear x1 x2
      refine hK _ _ (HS.out _ (_ :: _ :: _ :: (H0 ++ Hq)) (by simpa [List.append_assoc] using ((hC.alloc _).alloc _).alloc _)) (fun hs2 => ?_); clear hK K hs; have hs := hs2; clear hs2
      refine Z_mid 9 rfl (by kernel_rfl) (fun K hK => ?_)
      have ⟨x1, x2⟩ := hs
      have hHa := ((hC.alloc (.cells zs 5)).alloc (.cells #[.slice (some ⟨w1.heap.size, 0, none⟩) z z] 31)).alloc' (.cells #[.slice (some ⟨w1.heap.size + 1, 0, none⟩) 1 1] 53); rw [World.size_alloc] at hHa; have hsrc := ReadsAt.one (w := (w1.alloc (.cells zs 5)).alloc (.cells #[.slice (some ⟨w1.heap.size, 0, none⟩) z z] 31)) (e := 53) (x := .slice (some ⟨w1.heap.size + 1, 0, none⟩) 1 1); simp only [World.size_alloc] at hsrc; refine step_append_T tBytesss (by rfl) _ _ (by rfl) (by rfl) (by rfl) HROW.out (Holds.swap (A := [_, _]) hHa) hsrc (by simp [Value.oneCell']) (by simp [maxLen]; omega) (by omega) ?_; intro A' c3 w' H' hrow2 hH6 hg4   -- call w
      clear x1 x2
      refine hK _ _ (HS.out _ (H' ++ (_ :: _ :: Hq)) (by simpa [List.append_assoc] using hH6)) (fun hs2 => ?_); clear hK K hs; have hs := hs2; clear hs2
      refine Z_takeD 10 (some 39) (v := ?_) rfl rfl (by kernel_rfl) (fun _ _ _ h => h) (by rfl) hs ?_ ?_
      rotate_left
      · intro wx hx; obtain ⟨x1, x2⟩ := hx; go_simp; try with_reducible rfl
      simp only [Act.put, List.setIfInBounds_toArray, List.set_cons_succ, List.set_cons_zero]
      refine Z_takeD 11 (some 40) (v := ?_) rfl rfl (by kernel_rfl) (fun _ _ _ h => h) (by rfl) hs ?_ ?_
      rotate_left
      · intro wx hx; obtain ⟨x1, x2⟩ := hx; go_simp; try with_reducible rfl
      simp only [Act.put, List.setIfInBounds_toArray, List.set_cons_succ, List.set_cons_zero]
      refine Z_last 12 rfl (by kernel_rfl) rfl (fun K hK => ?_)
      have ⟨x1, x2⟩ := hs
      go_simp   -- store w
      clear x1 x2
      refine hK _ _ ?_; clear hK K hs
      refine Z_done (by kernel_rfl) ?_ _
      have hz5 := IsRow.made (size := 1) (e := 5) w1.heap.size z zs (by rw [HZN.out]; omega) (by simp [maxLen]; omega)
      rw [HZS.out] at hz5
      have hin : byssR [.slice (some ⟨w1.heap.size + 1, 0, none⟩) 1 1] [List.replicate z 0] [(w1.heap.size + 1, .cells #[.slice (some ⟨w1.heap.size, 0, none⟩) z z] 31), (w1.heap.size, .cells zs 5)] := ⟨_, rfl, IsBys.one (by unfold IsBytes; simpa using hz5)⟩
      have hr9 := HADD.out (.slice A' (k + 1) c3) H' _ _ _ rfl hin hrow2
      have hset : Holds (w'.setCell ⟨w.heap.size, 0, none⟩ (.slice A' (k + 1) c3)) ((w.heap.size, .cells #[.slice A' (k + 1) c3, .int .i64 (BM.new k z).size, .bool (BM.new k z).given] 45) :: ((H' ++ (Hq ++ [(w1.heap.size + 1, .cells #[.slice (some ⟨w1.heap.size, 0, none⟩) z z] 31), (w1.heap.size, .cells zs 5)])) ++ Fr)) :=
        Holds.set (cs := #[.slice A k c, .int .i64 (BM.new k z).size, .bool (BM.new k z).given]) (hH6.sub (fun p hp => by simp only [List.mem_append, List.mem_cons, List.not_mem_nil, or_false] at hp ⊢; grind) (fun b => by simp only [keyc_append, keyc_cons, keyc_nil]; omega)) 0 (.slice A' (k + 1) c3)
      have hm8 := (show IsRM (.pointer (some ⟨w.heap.size, 0, none⟩)) ⟨z, (BM.new k z).may ++ [[List.replicate z 0]], false⟩ ((w.heap.size, .cells #[.slice A' (k + 1) c3, .int .i64 (z : Int), .bool false] 45) :: (H' ++ (Hq ++ [(w1.heap.size + 1, .cells #[.slice (some ⟨w1.heap.size, 0, none⟩) z z] 31), (w1.heap.size, .cells zs 5)]))) from ⟨w.heap.size, _, _, rfl, hr9, rfl⟩)
      rw [← BM.new_succ] at hm8
      have hgg := ((hG.alloc (.cells zs 5)).alloc (.cells #[.slice (some ⟨w1.heap.size, 0, none⟩) z z] 31)).alloc (.cells #[.slice (some ⟨w1.heap.size + 1, 0, none⟩) 1 1] 53)
      have hfin : RNewTo w.heap.size z n w Fr (.int .i64 ((k : Int) + 1)) (w'.setCell ⟨w.heap.size, 0, none⟩ (.slice A' (k + 1) c3)) :=
        ⟨k + 1, _, by omega, by go_num, hm8, hset, (hgg.trans hg4).setCell _ _⟩
      have HF := Lib.hid hfin
      clear hm8 hr9 hset hin hrow2 hfin
      go_wp2
      exact ⟨HF.out, by simp [intOf]; omega⟩
    · obtain rfl : k = n := by omega
      go_wp2
      go_ret
      exact ⟨_, H, rfl, HM.out, hH1, hg⟩

set_option maxHeartbeats 400000 in
theorem rnew_bad (n z : Int) (w : World) (h : ¬ (1 ≤ n ∧ n ≤ 256 ∧ 128 ≤ z ∧ z ≤ 256)) :
    Calls Try.prog 16 #[.int .i64 n, .int .i64 z] w fun e w' => e = .returned (.pointer none) ∧ w = w' := by
  have hc : (decide (n < 1) || decide (256 < n) || decide (z < 128) || decide (256 < z)) = true := by
    simp only [Bool.or_eq_true, decide_eq_true_eq]; omega
  by_cases h1 : n < 1
  · go_enter Try.func16, Try.ntmps16
    go_wp2
    go_ret
    exact ⟨rfl, rfl⟩
  · by_cases h2 : 256 < n
    · go_enter Try.func16, Try.ntmps16
      go_wp2
      go_ret
      exact ⟨rfl, rfl⟩
    · by_cases h3 : z < 128
      · go_enter Try.func16, Try.ntmps16
        go_wp2
        go_ret
        exact ⟨rfl, rfl⟩
      · have h4 : 256 < z := by omega
        go_enter Try.func16, Try.ntmps16
        go_wp2
        go_ret
        exact ⟨rfl, rfl⟩
end Go.Proofs.Yteaeahhjkagbdaa
