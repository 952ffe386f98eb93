/-
  sculleryref11: New.
-/
import Derived.Test.YteaeahhjkagbdaaRef11R
import Derived.Test.YteaeahhjkagbdaaYd9
import Derived.Test.YteaeahhjkagbdaaOrd2
import Derived.Deep.DeepCutAuto
namespace Go.Proofs.Yteaeahhjkagbdaa
open Go.RowKit
set_option linter.unusedSimpArgs false
set_option linter.unusedVariables false

theorem tBoolss : SlT Try.prog 141 76 1 24 (.slice none 0 0) := SlT.mk' (by kernel_rfl) (by kernel_rfl) (by rfl) (by decide)
theorem Holds.back2 {w : World} {p : Nat × Obj} {A B R : HL} (h : Holds w (p :: (A ++ (B ++ R)))) : Holds w (A ++ (B ++ (p :: R))) := h.sub (by (repeat' (first | refine sub_append ?_ ?_ | refine sub_cons ?_ ?_ | exact sub_nil)); all_goals first | (intro p hp; simp only [List.mem_append, List.mem_cons, hp, true_or, or_true]) | simp only [List.mem_append, List.mem_cons, true_or, or_true]) (fun b => by simp only [keyc_append, keyc_cons, keyc_nil]; omega)
/-- a literal that lies among what there is -/
theorem ReadsAt.lit {w : World} {H : HL} (g : Nat) (x : Value) (e : TypeId) (h : Holds w H) (hm : (g, Obj.cells #[x] e) ∈ H) : ReadsAt w 1 (.slice (some ⟨g, 0, none⟩) 1 1) 1 [x] :=
  ReadsAt.of_block (h.get hm) [x] rfl (Nat.le_refl _) (by simp [maxLen]) (fun j u hu => by simpa using hu)

/-- the loop: what stands at address b -/
def RYNewTo (b n m : Nat) (w : World) (Fr : HL) (iv : Value) (wr : World) : Prop :=
  ∃ (k : Nat) (sv tv nv dv : Value) (Hs Ht Hn Hd : HL), k ≤ n ∧ iv = .int .i64 k ∧ IsNums sv (List.replicate k 1) Hs ∧ IsNums tv (List.replicate k 0) Ht ∧ Rows2 boolR 76 1 nv (List.replicate k (List.replicate m false)) Hn ∧ Rows2 boolR 76 1 dv (List.replicate k (List.replicate m false)) Hd ∧
    Holds wr ((b, .cells #[sv, tv, nv, dv, .int .i64 (m : Int)] 143) :: (Hs ++ (Ht ++ (Hn ++ (Hd ++ Fr))))) ∧ Grew w wr
def RYNewMid (b m k : Nat) (nv dv : Value) (Hn Hd : HL) (w : World) (Fr : HL) (wr : World) : Prop :=
  ∃ (sv tv : Value) (Hs Ht : HL), IsNums sv (List.replicate (k + 1) 1) Hs ∧ IsNums tv (List.replicate (k + 1) 0) Ht ∧
    Holds wr ((b, .cells #[sv, tv, nv, dv, .int .i64 (m : Int)] 143) :: (Hs ++ (Ht ++ (Hn ++ (Hd ++ Fr))))) ∧ Grew w wr

set_option maxRecDepth 20000 in
set_option maxHeartbeats 4000000 in
theorem rynew_good (n m : Nat) (Fr : HL) (w : World) (hH : Holds w Fr) (hn1 : 1 ≤ n) (hn2 : n ≤ 32) (hm1 : 1 ≤ m) (hm2 : m ≤ 8) :
    Calls Try.prog 63 #[.int .i64 (n : Int), .int .i64 (m : Int)] w (RetNew (fun v H => IsRY v (Ynew n m) m H) w Fr) := by
  have hmb := fun w => run_makeN (P := Try.prog) tBools m m (Nat.le_refl _) (by omega) (by simp [maxLen]; omega) w
  obtain ⟨bs, hbs⟩ : ∃ bs, bs = madeCells (Value.bool false).cells (m * 1) := ⟨_, rfl⟩
  rw [← hbs] at hmb
  have hbr : ∀ g : Nat, IsRow 4 1 (.slice (some ⟨g, 0, none⟩) m m) m ((List.replicate m false).map Value.bool) [(g, .cells bs 4)] := by
    intro g
    have h := IsRow.made (size := 1) (e := 4) g m bs (by rw [hbs, made_size]) (by simp [maxLen]; omega)
    have e : bs.toList = (List.replicate m false).map Value.bool := by
      rw [hbs]
      apply List.ext_getElem
      · simp [madeCells]
      · intro i h1 h2
        simp [madeCells, Value.cells, Nat.mod_one]
    rw [e] at h
    exact h
  have HBR := Lib.hid hbr; clear hbr hbs
  go_enter Try.func63, Try.ntmps63
  go_wp2_with fail
  go_loopw [6] (fun iv wr => RYNewTo w.heap.size n m w Fr iv wr) (fun iv _ => n - (intOf iv).toNat)
  case atStart => exact ⟨0, _, _, _, _, [], [], [], [], by omega, rfl, IsRow.nil _ _, IsRow.nil _ _, Rows2.nil _ _ _, Rows2.nil _ _ _, hH.alloc _, (Grew.refl w).alloc _⟩
  case round =>
    obtain ⟨k, sv, tv, nv, dv, Hs, Ht, Hn, Hd, hk, rfl, hs, ht, hn, hd0, hHr, hgr⟩ := hrel
    generalize w.heap.size = b at *
    by_cases hlt : k < n
    · obtain ⟨As, cs, rfl⟩ := hs.val
      obtain ⟨At, ct, rfl⟩ := ht.val
      have hs' : IsRow 3 1 (.slice As k cs) k ((List.replicate k (1 : Int)).map (Value.int .i64)) Hs := by simpa [IsNums] using hs
      have ht' : IsRow 3 1 (.slice At k ct) k ((List.replicate k (0 : Int)).map (Value.int .i64)) Ht := by simpa [IsNums] using ht
      simp only [List.length_replicate] at hHr ⊢
      have HRS := Lib.hid hs'
      have HRT := Lib.hid ht'
      have HRN := Lib.hid hn
      have HRD := Lib.hid hd0
      clear hs ht hs' ht' hn hd0
      have HS := Lib.hid (fun (wx : World) (HH : HL) (hx : Holds wx HH) (hm : (b, Obj.cells #[.slice As k cs, .slice At k ct, nv, dv, .int .i64 (m : Int)] 143) ∈ HH) => And.intro (hx.cell hm 0) (And.intro (hx.cell hm 1) (And.intro (hx.frozen hm 0) (hx.frozen hm 1))))
      go_upto_region 7 with fail
      go_cut [] (fun wx => RYNewMid b m k nv dv Hn Hd w Fr wx)
      case first =>
        refine Y_begin (fun wx => wx.cell? ⟨b, 0, none⟩ = some (.slice As k cs) ∧ wx.cell? ⟨b, 1, none⟩ = some (.slice At k ct) ∧ wx.frozen? ⟨b, 0, none⟩ = false ∧ wx.frozen? ⟨b, 1, none⟩ = false) 16 (by kernel_rfl) (fun w1 hd => HS.out _ _ (hHr.dr hd) (by simp)) (fun w1 hd hs => ?_)
        have hC : Holds w1 (Hs ++ (Ht ++ ((b, .cells #[.slice As k cs, .slice At k ct, nv, dv, .int .i64 (m : Int)] 143) :: (Hn ++ (Hd ++ Fr))))) := (hHr.dr hd).sub (by (repeat' (first | refine sub_append ?_ ?_ | refine sub_cons ?_ ?_ | exact sub_nil)); all_goals first | (intro p hp; simp only [List.mem_append, List.mem_cons, hp, true_or, or_true]) | simp only [List.mem_append, List.mem_cons, true_or, or_true]) (fun b => by simp only [keyc_append, keyc_cons, keyc_nil]; omega); have hG := hgr.trans (Grew.dr hd); clear hd hHr hgr; obtain ⟨wc, rfl⟩ : ∃ x, x = w1 := ⟨_, rfl⟩
        refine Y_takeT 0 (some 29) (v := ?_) rfl rfl (by kernel_rfl) (fun _ _ _ h => h) (by rfl) hs ?_ ?_
        rotate_left
        · intro wx; go_simp; try with_reducible rfl
        simp only [Act.put, List.setIfInBounds_toArray, List.set_cons_succ, List.set_cons_zero]
        refine Y_takeT 1 (some 30) (v := ?_) rfl rfl (by kernel_rfl) (fun _ _ _ h => h) (by rfl) hs ?_ ?_
        rotate_left
        · intro wx; go_simp; try with_reducible rfl
        simp only [Act.put, List.setIfInBounds_toArray, List.set_cons_succ, List.set_cons_zero]
        refine Y_takeT 2 (some 31) (v := ?_) rfl rfl (by kernel_rfl) (fun _ _ _ h => h) (by rfl) hs ?_ ?_
        rotate_left
        · intro wx; go_simp; try with_reducible rfl
        simp only [Act.put, List.setIfInBounds_toArray, List.set_cons_succ, List.set_cons_zero]
        refine Y_takeT 3 (some 32) (v := ?_) rfl rfl (by kernel_rfl) (fun _ _ _ h => h) (by rfl) hs ?_ ?_
        rotate_left
        · intro wx; go_simp; try with_reducible rfl
        simp only [Act.put, List.setIfInBounds_toArray, List.set_cons_succ, List.set_cons_zero]
        refine Y_takeT 4 (some 33) (v := ?_) rfl rfl (by kernel_rfl) (fun _ _ _ h => h) (by rfl) hs ?_ ?_
        rotate_left
        · intro wx; go_simp; try with_reducible rfl
        simp only [Act.put, List.setIfInBounds_toArray, List.set_cons_succ, List.set_cons_zero]
        refine Y_takeD 5 (some 34) (v := ?_) rfl rfl (by kernel_rfl) (fun _ _ _ h => h) (by rfl) hs ?_ ?_
        rotate_left
        · intro wx hx; obtain ⟨x1, x2, f1, f2⟩ := hx; go_simp; try with_reducible rfl
        simp only [Act.put, List.setIfInBounds_toArray, List.set_cons_succ, List.set_cons_zero]
        refine Y_takeT 8 (some 37) (v := ?_) rfl rfl (by kernel_rfl) (fun _ _ _ h => h) (by rfl) hs ?_ ?_
        rotate_left
        · intro wx; go_simp; try with_reducible rfl
        simp only [Act.put, List.setIfInBounds_toArray, List.set_cons_succ, List.set_cons_zero]
        refine Y_takeT 9 (some 38) (v := ?_) rfl rfl (by kernel_rfl) (fun _ _ _ h => h) (by rfl) hs ?_ ?_
        rotate_left
        · intro wx; go_simp; try with_reducible rfl
        simp only [Act.put, List.setIfInBounds_toArray, List.set_cons_succ, List.set_cons_zero]
        refine Y_takeT 10 (some 39) (v := ?_) rfl rfl (by kernel_rfl) (fun _ _ _ h => h) (by rfl) hs ?_ ?_
        rotate_left
        · intro wx; go_simp; try with_reducible rfl
        simp only [Act.put, List.setIfInBounds_toArray, List.set_cons_succ, List.set_cons_zero]
        refine Y_takeD 11 (some 40) (v := ?_) rfl rfl (by kernel_rfl) (fun _ _ _ h => h) (by rfl) hs ?_ ?_
        rotate_left
        · intro wx hx; obtain ⟨x1, x2, f1, f2⟩ := hx; go_simp; try with_reducible rfl
        simp only [Act.put, List.setIfInBounds_toArray, List.set_cons_succ, List.set_cons_zero]
        refine Y_two 6 12 rfl rfl (by kernel_rfl) (fun K hK => ?_) (fun K hK => ?_)
        have ⟨x1, x2, f1, f2⟩ := hs
        go_simp   -- buildSlice
        clear x1 x2 f1 f2
        refine hK _ _ (HS.out _ _ (hC.alloc _) (by simp)) (fun hs2 => ?_); clear hK K hs; have hs := hs2; clear hs2
        have hC2 := Holds.back2 (hC.alloc (.cells #[.int .i64 1] 3)); have hG2 := hG.alloc (.cells #[.int .i64 1] 3); clear hC hG; generalize wc.alloc (.cells #[.int .i64 1] 3) = wq at *; generalize wc.heap.size = g6 at *; clear wc; have hC := hC2; have hG := hG2; clear hC2 hG2; obtain ⟨wc, rfl⟩ : ∃ x, x = wq := ⟨_, rfl⟩
        refine Y_two 7 12 rfl rfl (by kernel_rfl) (fun K hK => ?_) (fun K hK => ?_)
        have ⟨x1, x2, f1, f2⟩ := hs
        refine step_append_T tInts (by rfl) _ _ (by rfl) (by rfl) (by rfl) HRS.out (Fr := Ht ++ _) hC (ReadsAt.lit g6 (.int .i64 1) 3 hC (by simp)) (by simp [Value.oneCell']) (by simp [maxLen]; omega) (by omega) ?_; intro A7 c7 wq H7 hR7 hC7 gg7   -- call
        clear x1 x2 f1 f2
        refine hK _ _ (HS.out _ _ hC7 (by simp)) (fun hs2 => ?_); clear hK K hs; have hs := hs2; clear hs2
        have hG2 := hG.trans gg7; clear hC hG gg7; have hC := hC7; have hG := hG2; clear hC7 hG2; clear wc; obtain ⟨wc, rfl⟩ : ∃ x, x = wq := ⟨_, rfl⟩
        refine Y_mid 12 rfl (by kernel_rfl) (fun K hK => ?_)
        have ⟨x1, x2, f1, f2⟩ := hs
        go_simp   -- buildSlice
        clear x1 x2 f1 f2
        refine hK _ _ (HS.out _ _ (hC.alloc _) (by simp)) (fun hs2 => ?_); clear hK K hs; have hs := hs2; clear hs2
        have hC2 := Holds.back2 (hC.alloc (.cells #[.int .i64 0] 3)); have hG2 := hG.alloc (.cells #[.int .i64 0] 3); clear hC hG; generalize wc.alloc (.cells #[.int .i64 0] 3) = wq at *; generalize wc.heap.size = g12 at *; clear wc; have hC := hC2; have hG := hG2; clear hC2 hG2; obtain ⟨wc, rfl⟩ : ∃ x, x = wq := ⟨_, rfl⟩
        refine Y_mid 13 rfl (by kernel_rfl) (fun K hK => ?_)
        have ⟨x1, x2, f1, f2⟩ := hs
        refine step_append_T tInts (by rfl) _ _ (by rfl) (by rfl) (by rfl) HRT.out (Fr := H7 ++ _) hC.swap (ReadsAt.lit g12 (.int .i64 0) 3 hC (by simp)) (by simp [Value.oneCell']) (by simp [maxLen]; omega) (by omega) ?_; intro A13 c13 wq H13 hR13 hC13 gg13   -- call
        clear x1 x2 f1 f2
        refine hK _ _ (HS.out _ _ hC13 (by simp)) (fun hs2 => ?_); clear hK K hs; have hs := hs2; clear hs2
        have hG2 := hG.trans gg13; clear hC hG gg13; have hC := hC13.swap; have hG := hG2; clear hC13 hG2; clear wc; obtain ⟨wc, rfl⟩ : ∃ x, x = wq := ⟨_, rfl⟩
        rotate_left
        have ⟨x1, x2, f1, f2⟩ := hs
        go_simp   -- buildSlice
        clear x1 x2 f1 f2
        refine hK _ _ (HS.out _ _ (hC.alloc _) (by simp)) (fun hs2 => ?_); clear hK K hs; have hs := hs2; clear hs2
        have hC2 := Holds.back2 (hC.alloc (.cells #[.int .i64 0] 3)); have hG2 := hG.alloc (.cells #[.int .i64 0] 3); clear hC hG; generalize wc.alloc (.cells #[.int .i64 0] 3) = wq at *; generalize wc.heap.size = g12 at *; clear wc; have hC := hC2; have hG := hG2; clear hC2 hG2; obtain ⟨wc, rfl⟩ : ∃ x, x = wq := ⟨_, rfl⟩
        refine Y_mid 7 rfl (by kernel_rfl) (fun K hK => ?_)
        have ⟨x1, x2, f1, f2⟩ := hs
        refine step_append_T tInts (by rfl) _ _ (by rfl) (by rfl) (by rfl) HRS.out (Fr := Ht ++ _) hC (ReadsAt.lit g6 (.int .i64 1) 3 hC (by simp)) (by simp [Value.oneCell']) (by simp [maxLen]; omega) (by omega) ?_; intro A7 c7 wq H7 hR7 hC7 gg7   -- call
        clear x1 x2 f1 f2
        refine hK _ _ (HS.out _ _ hC7 (by simp)) (fun hs2 => ?_); clear hK K hs; have hs := hs2; clear hs2
        have hG2 := hG.trans gg7; clear hC hG gg7; have hC := hC7; have hG := hG2; clear hC7 hG2; clear wc; obtain ⟨wc, rfl⟩ : ∃ x, x = wq := ⟨_, rfl⟩
        refine Y_mid 13 rfl (by kernel_rfl) (fun K hK => ?_)
        have ⟨x1, x2, f1, f2⟩ := hs
        refine step_append_T tInts (by rfl) _ _ (by rfl) (by rfl) (by rfl) HRT.out (Fr := H7 ++ _) hC.swap (ReadsAt.lit g12 (.int .i64 0) 3 hC (by simp)) (by simp [Value.oneCell']) (by simp [maxLen]; omega) (by omega) ?_; intro A13 c13 wq H13 hR13 hC13 gg13   -- call
        clear x1 x2 f1 f2
        refine hK _ _ (HS.out _ _ hC13 (by simp)) (fun hs2 => ?_); clear hK K hs; have hs := hs2; clear hs2
        have hG2 := hG.trans gg13; clear hC hG gg13; have hC := hC13.swap; have hG := hG2; clear hC13 hG2; clear wc; obtain ⟨wc, rfl⟩ : ∃ x, x = wq := ⟨_, rfl⟩
        rotate_left
        have ⟨x1, x2, f1, f2⟩ := hs
        go_simp   -- buildSlice
        clear x1 x2 f1 f2
        refine hK _ _ (HS.out _ _ (hC.alloc _) (by simp)) (fun hs2 => ?_); clear hK K hs; have hs := hs2; clear hs2
        have hC2 := Holds.back2 (hC.alloc (.cells #[.int .i64 0] 3)); have hG2 := hG.alloc (.cells #[.int .i64 0] 3); clear hC hG; generalize wc.alloc (.cells #[.int .i64 0] 3) = wq at *; generalize wc.heap.size = g12 at *; clear wc; have hC := hC2; have hG := hG2; clear hC2 hG2; obtain ⟨wc, rfl⟩ : ∃ x, x = wq := ⟨_, rfl⟩
        refine Y_mid 6 rfl (by kernel_rfl) (fun K hK => ?_)
        have ⟨x1, x2, f1, f2⟩ := hs
        go_simp   -- buildSlice
        clear x1 x2 f1 f2
        refine hK _ _ (HS.out _ _ (hC.alloc _) (by simp)) (fun hs2 => ?_); clear hK K hs; have hs := hs2; clear hs2
        have hC2 := Holds.back2 (hC.alloc (.cells #[.int .i64 1] 3)); have hG2 := hG.alloc (.cells #[.int .i64 1] 3); clear hC hG; generalize wc.alloc (.cells #[.int .i64 1] 3) = wq at *; generalize wc.heap.size = g6 at *; clear wc; have hC := hC2; have hG := hG2; clear hC2 hG2; obtain ⟨wc, rfl⟩ : ∃ x, x = wq := ⟨_, rfl⟩
        refine Y_mid 7 rfl (by kernel_rfl) (fun K hK => ?_)
        have ⟨x1, x2, f1, f2⟩ := hs
        refine step_append_T tInts (by rfl) _ _ (by rfl) (by rfl) (by rfl) HRS.out (Fr := Ht ++ _) hC (ReadsAt.lit g6 (.int .i64 1) 3 hC (by simp)) (by simp [Value.oneCell']) (by simp [maxLen]; omega) (by omega) ?_; intro A7 c7 wq H7 hR7 hC7 gg7   -- call
        clear x1 x2 f1 f2
        refine hK _ _ (HS.out _ _ hC7 (by simp)) (fun hs2 => ?_); clear hK K hs; have hs := hs2; clear hs2
        have hG2 := hG.trans gg7; clear hC hG gg7; have hC := hC7; have hG := hG2; clear hC7 hG2; clear wc; obtain ⟨wc, rfl⟩ : ∃ x, x = wq := ⟨_, rfl⟩
        refine Y_mid 13 rfl (by kernel_rfl) (fun K hK => ?_)
        have ⟨x1, x2, f1, f2⟩ := hs
        refine step_append_T tInts (by rfl) _ _ (by rfl) (by rfl) (by rfl) HRT.out (Fr := H7 ++ _) hC.swap (ReadsAt.lit g12 (.int .i64 0) 3 hC (by simp)) (by simp [Value.oneCell']) (by simp [maxLen]; omega) (by omega) ?_; intro A13 c13 wq H13 hR13 hC13 gg13   -- call
        clear x1 x2 f1 f2
        refine hK _ _ (HS.out _ _ hC13 (by simp)) (fun hs2 => ?_); clear hK K hs; have hs := hs2; clear hs2
        have hG2 := hG.trans gg13; clear hC hG gg13; have hC := hC13.swap; have hG := hG2; clear hC13 hG2; clear wc; obtain ⟨wc, rfl⟩ : ∃ x, x = wq := ⟨_, rfl⟩
        rotate_left
        all_goals
          have hD : Holds wc ((b, .cells #[.slice As k cs, .slice At k ct, nv, dv, .int .i64 (m : Int)] 143) :: (H7 ++ (H13 ++ (Hn ++ (Hd ++ Fr))))) := hC.sub (by (repeat' (first | refine sub_append ?_ ?_ | refine sub_cons ?_ ?_ | exact sub_nil)); all_goals first | (intro p hp; simp only [List.mem_append, List.mem_cons, hp, true_or, or_true]) | simp only [List.mem_append, List.mem_cons, true_or, or_true]) (fun b => by simp only [keyc_append, keyc_cons, keyc_nil]; omega); clear hC
          refine Y_takeT 14 (some 43) (v := ?_) rfl rfl (by kernel_rfl) (fun _ _ _ h => h) (by rfl) hs ?_ ?_
          rotate_left
          · intro wx; go_simp; try with_reducible rfl
          simp only [Act.put, List.setIfInBounds_toArray, List.set_cons_succ, List.set_cons_zero]
          refine Y_takeT 15 (some 44) (v := ?_) rfl rfl (by kernel_rfl) (fun _ _ _ h => h) (by rfl) hs ?_ ?_
          rotate_left
          · intro wx; go_simp; try with_reducible rfl
          simp only [Act.put, List.setIfInBounds_toArray, List.set_cons_succ, List.set_cons_zero]
          refine Y_late 16 rfl (by kernel_rfl) (by kernel_rfl) (fun K hK => ?_)
          have ⟨x1, x2, f1, f2⟩ := hs
          go_simp   -- store
          clear x1 x2 f1 f2 hs
          refine hK _ _ ?_; clear hK K
          have hE : Holds (wc.setCell ⟨b, 0, none⟩ (.slice A7 (k + 1) c7)) ((b, .cells #[.slice A7 (k + 1) c7, .slice At k ct, nv, dv, .int .i64 (m : Int)] 143) :: (H7 ++ (H13 ++ (Hn ++ (Hd ++ Fr))))) := Holds.set hD 0 (.slice A7 (k + 1) c7); have y1 := hE.hcell 1; have y2 := hE.hfrozen 1; simp only [List.getElem?_toArray, List.getElem?_cons_zero, List.getElem?_cons_succ] at y1
          refine Y_late 17 rfl (by kernel_rfl) (by kernel_rfl) (fun K hK => ?_)
          go_simp   -- nilCheck
          refine hK _ _ ?_; clear hK K
          refine Y_late 18 rfl (by kernel_rfl) (by kernel_rfl) (fun K hK => ?_)
          go_simp   -- fieldAddr
          refine hK _ _ ?_; clear hK K
          refine Y_late 19 rfl (by kernel_rfl) (by kernel_rfl) (fun K hK => ?_)
          go_simp   -- store
          refine hK _ _ ?_; clear hK K
          refine Y_done (by kernel_rfl) ?_ _
          have hF : Holds ((wc.setCell ⟨b, 0, none⟩ (.slice A7 (k + 1) c7)).setCell ⟨b, 1, none⟩ (.slice A13 (k + 1) c13)) ((b, .cells #[.slice A7 (k + 1) c7, .slice A13 (k + 1) c13, nv, dv, .int .i64 (m : Int)] 143) :: (H7 ++ (H13 ++ (Hn ++ (Hd ++ Fr))))) := Holds.set hE 1 (.slice A13 (k + 1) c13)
          have e1 : IsNums (.slice A7 (k + 1) c7) (List.replicate (k + 1) 1) H7 := by
            unfold IsNums; rw [List.length_replicate, List.replicate_succ', List.map_append]; exact hR7
          have e2 : IsNums (.slice A13 (k + 1) c13) (List.replicate (k + 1) 0) H13 := by
            unfold IsNums; rw [List.length_replicate, List.replicate_succ', List.map_append]; exact hR13
          have hfin : RYNewMid b m k nv dv Hn Hd w Fr ((wc.setCell ⟨b, 0, none⟩ (.slice A7 (k + 1) c7)).setCell ⟨b, 1, none⟩ (.slice A13 (k + 1) c13)) := ⟨_, _, H7, H13, e1, e2, hF, (hG.setCell _ _).setCell _ _⟩
          have HFIN := Lib.hid hfin
          clear hfin e1 e2 hF hE hD hG hR7 hR13 y1 y2
          go_wp2_with fail
          go_meet
          exact HFIN.out
      case rest =>
        obtain ⟨sv, tv, Hs2, Ht2, hs2, ht2, hHm, hGm⟩ := hcut
        clear HS HRS HRT hHr hgr
        have HS2 := Lib.hid hs2
        have HT2 := Lib.hid ht2
        obtain ⟨An, cn, rfl, _, _⟩ := HRN.out.val
        obtain ⟨Ad, cd, rfl, _, _⟩ := HRD.out.val
        simp only [List.length_replicate] at HRN HRD hHm ⊢
        obtain ⟨cellsN, HN0, HN1, rfl, hrn, honeN, haddN⟩ := HRN.out.parts3
        obtain ⟨cellsD, HD0, HD1, rfl, hrd, honeD, haddD⟩ := HRD.out.parts3
        simp only [List.length_replicate] at hrn hrd haddN haddD
        have HRN0 := Lib.hid hrn
        have HRD0 := Lib.hid hrd
        have HADDN := Lib.hid haddN
        have HADDD := Lib.hid haddD
        clear hrn hrd haddN haddD honeN honeD hs2 ht2
        have HS := Lib.hid (fun (wx : World) (HH : HL) (hx : Holds wx HH) (hm : (b, Obj.cells #[sv, tv, .slice An k cn, .slice Ad k cd, .int .i64 (m : Int)] 143) ∈ HH) => And.intro (hx.cell hm 2) (And.intro (hx.cell hm 3) (And.intro (hx.frozen hm 2) (hx.frozen hm 3))))
        have hHr : Holds wc (HN0 ++ (HD0 ++ ((b, .cells #[sv, tv, .slice An k cn, .slice Ad k cd, .int .i64 (m : Int)] 143) :: (HN1 ++ (HD1 ++ (Hs2 ++ (Ht2 ++ Fr))))))) := hHm.sub (by (repeat' (first | refine sub_append ?_ ?_ | refine sub_cons ?_ ?_ | exact sub_nil)); all_goals first | (intro p hp; simp only [List.mem_append, List.mem_cons, hp, true_or, or_true]) | simp only [List.mem_append, List.mem_cons, true_or, or_true]) (fun b => by simp only [keyc_append, keyc_cons, keyc_nil]; omega)
        have hgr := hGm
        clear hHm hGm
        obtain ⟨wr0, rfl⟩ : ∃ x, x = wc := ⟨_, rfl⟩
        go_upto_region 8 with fail
        refine Y_begin (fun wx => wx.cell? ⟨b, 2, none⟩ = some (.slice An k cn) ∧ wx.cell? ⟨b, 3, none⟩ = some (.slice Ad k cd) ∧ wx.frozen? ⟨b, 2, none⟩ = false ∧ wx.frozen? ⟨b, 3, none⟩ = false) 20 (by kernel_rfl) (fun w1 hd => HS.out _ _ (hHr.dr hd) (by simp)) (fun w1 hd hs => ?_)
        have hC := hHr.dr hd; have hG := hgr.trans (Grew.dr hd); clear hd hHr hgr; obtain ⟨wc, rfl⟩ : ∃ x, x = w1 := ⟨_, rfl⟩
        refine Y_takeT 0 (some 47) (v := ?_) rfl rfl (by kernel_rfl) (fun _ _ _ h => h) (by rfl) hs ?_ ?_
        rotate_left
        · intro wx; go_simp; try with_reducible rfl
        simp only [Act.put, List.setIfInBounds_toArray, List.set_cons_succ, List.set_cons_zero]
        refine Y_takeT 1 (some 48) (v := ?_) rfl rfl (by kernel_rfl) (fun _ _ _ h => h) (by rfl) hs ?_ ?_
        rotate_left
        · intro wx; go_simp; try with_reducible rfl
        simp only [Act.put, List.setIfInBounds_toArray, List.set_cons_succ, List.set_cons_zero]
        refine Y_takeT 2 (some 49) (v := ?_) rfl rfl (by kernel_rfl) (fun _ _ _ h => h) (by rfl) hs ?_ ?_
        rotate_left
        · intro wx; go_simp; try with_reducible rfl
        simp only [Act.put, List.setIfInBounds_toArray, List.set_cons_succ, List.set_cons_zero]
        refine Y_takeT 3 (some 50) (v := ?_) rfl rfl (by kernel_rfl) (fun _ _ _ h => h) (by rfl) hs ?_ ?_
        rotate_left
        · intro wx; go_simp; try with_reducible rfl
        simp only [Act.put, List.setIfInBounds_toArray, List.set_cons_succ, List.set_cons_zero]
        refine Y_takeT 4 (some 51) (v := ?_) rfl rfl (by kernel_rfl) (fun _ _ _ h => h) (by rfl) hs ?_ ?_
        rotate_left
        · intro wx; go_simp; try with_reducible rfl
        simp only [Act.put, List.setIfInBounds_toArray, List.set_cons_succ, List.set_cons_zero]
        refine Y_takeD 5 (some 52) (v := ?_) rfl rfl (by kernel_rfl) (fun _ _ _ h => h) (by rfl) hs ?_ ?_
        rotate_left
        · intro wx hx; obtain ⟨x1, x2, f1, f2⟩ := hx; go_simp; try with_reducible rfl
        simp only [Act.put, List.setIfInBounds_toArray, List.set_cons_succ, List.set_cons_zero]
        refine Y_takeT 6 (some 53) (v := ?_) rfl rfl (by kernel_rfl) (fun _ _ _ h => h) (by rfl) hs ?_ ?_
        rotate_left
        · intro wx; go_simp; try with_reducible rfl
        simp only [Act.put, List.setIfInBounds_toArray, List.set_cons_succ, List.set_cons_zero]
        refine Y_takeT 10 (some 57) (v := ?_) rfl rfl (by kernel_rfl) (fun _ _ _ h => h) (by rfl) hs ?_ ?_
        rotate_left
        · intro wx; go_simp; try with_reducible rfl
        simp only [Act.put, List.setIfInBounds_toArray, List.set_cons_succ, List.set_cons_zero]
        refine Y_takeT 11 (some 58) (v := ?_) rfl rfl (by kernel_rfl) (fun _ _ _ h => h) (by rfl) hs ?_ ?_
        rotate_left
        · intro wx; go_simp; try with_reducible rfl
        simp only [Act.put, List.setIfInBounds_toArray, List.set_cons_succ, List.set_cons_zero]
        refine Y_takeT 12 (some 59) (v := ?_) rfl rfl (by kernel_rfl) (fun _ _ _ h => h) (by rfl) hs ?_ ?_
        rotate_left
        · intro wx; go_simp; try with_reducible rfl
        simp only [Act.put, List.setIfInBounds_toArray, List.set_cons_succ, List.set_cons_zero]
        refine Y_takeD 13 (some 60) (v := ?_) rfl rfl (by kernel_rfl) (fun _ _ _ h => h) (by rfl) hs ?_ ?_
        rotate_left
        · intro wx hx; obtain ⟨x1, x2, f1, f2⟩ := hx; go_simp; try with_reducible rfl
        simp only [Act.put, List.setIfInBounds_toArray, List.set_cons_succ, List.set_cons_zero]
        refine Y_takeT 14 (some 61) (v := ?_) rfl rfl (by kernel_rfl) (fun _ _ _ h => h) (by rfl) hs ?_ ?_
        rotate_left
        · intro wx; go_simp; try with_reducible rfl
        simp only [Act.put, List.setIfInBounds_toArray, List.set_cons_succ, List.set_cons_zero]
        refine Y_two 7 15 rfl rfl (by kernel_rfl) (fun K hK => ?_) (fun K hK => ?_)
        have ⟨x1, x2, f1, f2⟩ := hs
        go_simp   -- makeSlice
        clear x1 x2 f1 f2
        refine hK _ _ (HS.out _ _ (hC.alloc _) (by simp)) (fun hs2 => ?_); clear hK K hs; have hs := hs2; clear hs2
        have hC2 := Holds.back2 (hC.alloc (.cells bs 4)); have hG2 := hG.alloc (.cells bs 4); clear hC hG; generalize wc.alloc (.cells bs 4) = wq at *; generalize wc.heap.size = g7 at *; clear wc; have hC := hC2; have hG := hG2; clear hC2 hG2; obtain ⟨wc, rfl⟩ : ∃ x, x = wq := ⟨_, rfl⟩
        refine Y_two 8 15 rfl rfl (by kernel_rfl) (fun K hK => ?_) (fun K hK => ?_)
        have ⟨x1, x2, f1, f2⟩ := hs
        go_simp   -- buildSlice
        clear x1 x2 f1 f2
        refine hK _ _ (HS.out _ _ (hC.alloc _) (by simp)) (fun hs2 => ?_); clear hK K hs; have hs := hs2; clear hs2
        have hC2 := Holds.back2 (hC.alloc (.cells #[.slice (some ⟨g7, 0, none⟩) m m] 76)); have hG2 := hG.alloc (.cells #[.slice (some ⟨g7, 0, none⟩) m m] 76); clear hC hG; generalize wc.alloc (.cells #[.slice (some ⟨g7, 0, none⟩) m m] 76) = wq at *; generalize wc.heap.size = g8 at *; clear wc; have hC := hC2; have hG := hG2; clear hC2 hG2; obtain ⟨wc, rfl⟩ : ∃ x, x = wq := ⟨_, rfl⟩
        refine Y_two 9 15 rfl rfl (by kernel_rfl) (fun K hK => ?_) (fun K hK => ?_)
        have ⟨x1, x2, f1, f2⟩ := hs
        refine step_append_T tBoolss (by rfl) _ _ (by rfl) (by rfl) (by rfl) HRN0.out (Fr := HD0 ++ _) hC (ReadsAt.lit g8 (.slice (some ⟨g7, 0, none⟩) m m) 76 hC (by simp)) (by simp [Value.oneCell']) (by simp [maxLen]; omega) (by omega) ?_; intro A9 c9 wq H9 hR9 hC9 gg9   -- call
        clear x1 x2 f1 f2
        refine hK _ _ (HS.out _ _ hC9 (by simp)) (fun hs2 => ?_); clear hK K hs; have hs := hs2; clear hs2
        have hG2 := hG.trans gg9; clear hC hG gg9; have hC := hC9; have hG := hG2; clear hC9 hG2; clear wc; obtain ⟨wc, rfl⟩ : ∃ x, x = wq := ⟨_, rfl⟩
        refine Y_mid 15 rfl (by kernel_rfl) (fun K hK => ?_)
        have ⟨x1, x2, f1, f2⟩ := hs
        go_simp   -- makeSlice
        clear x1 x2 f1 f2
        refine hK _ _ (HS.out _ _ (hC.alloc _) (by simp)) (fun hs2 => ?_); clear hK K hs; have hs := hs2; clear hs2
        have hC2 := Holds.back2 (hC.alloc (.cells bs 4)); have hG2 := hG.alloc (.cells bs 4); clear hC hG; generalize wc.alloc (.cells bs 4) = wq at *; generalize wc.heap.size = g15 at *; clear wc; have hC := hC2; have hG := hG2; clear hC2 hG2; obtain ⟨wc, rfl⟩ : ∃ x, x = wq := ⟨_, rfl⟩
        refine Y_mid 16 rfl (by kernel_rfl) (fun K hK => ?_)
        have ⟨x1, x2, f1, f2⟩ := hs
        go_simp   -- buildSlice
        clear x1 x2 f1 f2
        refine hK _ _ (HS.out _ _ (hC.alloc _) (by simp)) (fun hs2 => ?_); clear hK K hs; have hs := hs2; clear hs2
        have hC2 := Holds.back2 (hC.alloc (.cells #[.slice (some ⟨g15, 0, none⟩) m m] 76)); have hG2 := hG.alloc (.cells #[.slice (some ⟨g15, 0, none⟩) m m] 76); clear hC hG; generalize wc.alloc (.cells #[.slice (some ⟨g15, 0, none⟩) m m] 76) = wq at *; generalize wc.heap.size = g16 at *; clear wc; have hC := hC2; have hG := hG2; clear hC2 hG2; obtain ⟨wc, rfl⟩ : ∃ x, x = wq := ⟨_, rfl⟩
        refine Y_mid 17 rfl (by kernel_rfl) (fun K hK => ?_)
        have ⟨x1, x2, f1, f2⟩ := hs
        refine step_append_T tBoolss (by rfl) _ _ (by rfl) (by rfl) (by rfl) HRD0.out (Fr := H9 ++ _) hC.swap (ReadsAt.lit g16 (.slice (some ⟨g15, 0, none⟩) m m) 76 hC (by simp)) (by simp [Value.oneCell']) (by simp [maxLen]; omega) (by omega) ?_; intro A17 c17 wq H17 hR17 hC17 gg17   -- call
        clear x1 x2 f1 f2
        refine hK _ _ (HS.out _ _ hC17 (by simp)) (fun hs2 => ?_); clear hK K hs; have hs := hs2; clear hs2
        have hG2 := hG.trans gg17; clear hC hG gg17; have hC := hC17.swap; have hG := hG2; clear hC17 hG2; clear wc; obtain ⟨wc, rfl⟩ : ∃ x, x = wq := ⟨_, rfl⟩
        rotate_left
        have ⟨x1, x2, f1, f2⟩ := hs
        go_simp   -- makeSlice
        clear x1 x2 f1 f2
        refine hK _ _ (HS.out _ _ (hC.alloc _) (by simp)) (fun hs2 => ?_); clear hK K hs; have hs := hs2; clear hs2
        have hC2 := Holds.back2 (hC.alloc (.cells bs 4)); have hG2 := hG.alloc (.cells bs 4); clear hC hG; generalize wc.alloc (.cells bs 4) = wq at *; generalize wc.heap.size = g15 at *; clear wc; have hC := hC2; have hG := hG2; clear hC2 hG2; obtain ⟨wc, rfl⟩ : ∃ x, x = wq := ⟨_, rfl⟩
        refine Y_two 9 16 rfl rfl (by kernel_rfl) (fun K hK => ?_) (fun K hK => ?_)
        have ⟨x1, x2, f1, f2⟩ := hs
        refine step_append_T tBoolss (by rfl) _ _ (by rfl) (by rfl) (by rfl) HRN0.out (Fr := HD0 ++ _) hC (ReadsAt.lit g8 (.slice (some ⟨g7, 0, none⟩) m m) 76 hC (by simp)) (by simp [Value.oneCell']) (by simp [maxLen]; omega) (by omega) ?_; intro A9 c9 wq H9 hR9 hC9 gg9   -- call
        clear x1 x2 f1 f2
        refine hK _ _ (HS.out _ _ hC9 (by simp)) (fun hs2 => ?_); clear hK K hs; have hs := hs2; clear hs2
        have hG2 := hG.trans gg9; clear hC hG gg9; have hC := hC9; have hG := hG2; clear hC9 hG2; clear wc; obtain ⟨wc, rfl⟩ : ∃ x, x = wq := ⟨_, rfl⟩
        refine Y_mid 16 rfl (by kernel_rfl) (fun K hK => ?_)
        have ⟨x1, x2, f1, f2⟩ := hs
        go_simp   -- buildSlice
        clear x1 x2 f1 f2
        refine hK _ _ (HS.out _ _ (hC.alloc _) (by simp)) (fun hs2 => ?_); clear hK K hs; have hs := hs2; clear hs2
        have hC2 := Holds.back2 (hC.alloc (.cells #[.slice (some ⟨g15, 0, none⟩) m m] 76)); have hG2 := hG.alloc (.cells #[.slice (some ⟨g15, 0, none⟩) m m] 76); clear hC hG; generalize wc.alloc (.cells #[.slice (some ⟨g15, 0, none⟩) m m] 76) = wq at *; generalize wc.heap.size = g16 at *; clear wc; have hC := hC2; have hG := hG2; clear hC2 hG2; obtain ⟨wc, rfl⟩ : ∃ x, x = wq := ⟨_, rfl⟩
        refine Y_mid 17 rfl (by kernel_rfl) (fun K hK => ?_)
        have ⟨x1, x2, f1, f2⟩ := hs
        refine step_append_T tBoolss (by rfl) _ _ (by rfl) (by rfl) (by rfl) HRD0.out (Fr := H9 ++ _) hC.swap (ReadsAt.lit g16 (.slice (some ⟨g15, 0, none⟩) m m) 76 hC (by simp)) (by simp [Value.oneCell']) (by simp [maxLen]; omega) (by omega) ?_; intro A17 c17 wq H17 hR17 hC17 gg17   -- call
        clear x1 x2 f1 f2
        refine hK _ _ (HS.out _ _ hC17 (by simp)) (fun hs2 => ?_); clear hK K hs; have hs := hs2; clear hs2
        have hG2 := hG.trans gg17; clear hC hG gg17; have hC := hC17.swap; have hG := hG2; clear hC17 hG2; clear wc; obtain ⟨wc, rfl⟩ : ∃ x, x = wq := ⟨_, rfl⟩
        rotate_left
        have ⟨x1, x2, f1, f2⟩ := hs
        go_simp   -- buildSlice
        clear x1 x2 f1 f2
        refine hK _ _ (HS.out _ _ (hC.alloc _) (by simp)) (fun hs2 => ?_); clear hK K hs; have hs := hs2; clear hs2
        have hC2 := Holds.back2 (hC.alloc (.cells #[.slice (some ⟨g15, 0, none⟩) m m] 76)); have hG2 := hG.alloc (.cells #[.slice (some ⟨g15, 0, none⟩) m m] 76); clear hC hG; generalize wc.alloc (.cells #[.slice (some ⟨g15, 0, none⟩) m m] 76) = wq at *; generalize wc.heap.size = g16 at *; clear wc; have hC := hC2; have hG := hG2; clear hC2 hG2; obtain ⟨wc, rfl⟩ : ∃ x, x = wq := ⟨_, rfl⟩
        refine Y_mid 9 rfl (by kernel_rfl) (fun K hK => ?_)
        have ⟨x1, x2, f1, f2⟩ := hs
        refine step_append_T tBoolss (by rfl) _ _ (by rfl) (by rfl) (by rfl) HRN0.out (Fr := HD0 ++ _) hC (ReadsAt.lit g8 (.slice (some ⟨g7, 0, none⟩) m m) 76 hC (by simp)) (by simp [Value.oneCell']) (by simp [maxLen]; omega) (by omega) ?_; intro A9 c9 wq H9 hR9 hC9 gg9   -- call
        clear x1 x2 f1 f2
        refine hK _ _ (HS.out _ _ hC9 (by simp)) (fun hs2 => ?_); clear hK K hs; have hs := hs2; clear hs2
        have hG2 := hG.trans gg9; clear hC hG gg9; have hC := hC9; have hG := hG2; clear hC9 hG2; clear wc; obtain ⟨wc, rfl⟩ : ∃ x, x = wq := ⟨_, rfl⟩
        refine Y_mid 17 rfl (by kernel_rfl) (fun K hK => ?_)
        have ⟨x1, x2, f1, f2⟩ := hs
        refine step_append_T tBoolss (by rfl) _ _ (by rfl) (by rfl) (by rfl) HRD0.out (Fr := H9 ++ _) hC.swap (ReadsAt.lit g16 (.slice (some ⟨g15, 0, none⟩) m m) 76 hC (by simp)) (by simp [Value.oneCell']) (by simp [maxLen]; omega) (by omega) ?_; intro A17 c17 wq H17 hR17 hC17 gg17   -- call
        clear x1 x2 f1 f2
        refine hK _ _ (HS.out _ _ hC17 (by simp)) (fun hs2 => ?_); clear hK K hs; have hs := hs2; clear hs2
        have hG2 := hG.trans gg17; clear hC hG gg17; have hC := hC17.swap; have hG := hG2; clear hC17 hG2; clear wc; obtain ⟨wc, rfl⟩ : ∃ x, x = wq := ⟨_, rfl⟩
        rotate_left
        have ⟨x1, x2, f1, f2⟩ := hs
        go_simp   -- makeSlice
        clear x1 x2 f1 f2
        refine hK _ _ (HS.out _ _ (hC.alloc _) (by simp)) (fun hs2 => ?_); clear hK K hs; have hs := hs2; clear hs2
        have hC2 := Holds.back2 (hC.alloc (.cells bs 4)); have hG2 := hG.alloc (.cells bs 4); clear hC hG; generalize wc.alloc (.cells bs 4) = wq at *; generalize wc.heap.size = g15 at *; clear wc; have hC := hC2; have hG := hG2; clear hC2 hG2; obtain ⟨wc, rfl⟩ : ∃ x, x = wq := ⟨_, rfl⟩
        refine Y_two 8 16 rfl rfl (by kernel_rfl) (fun K hK => ?_) (fun K hK => ?_)
        have ⟨x1, x2, f1, f2⟩ := hs
        go_simp   -- buildSlice
        clear x1 x2 f1 f2
        refine hK _ _ (HS.out _ _ (hC.alloc _) (by simp)) (fun hs2 => ?_); clear hK K hs; have hs := hs2; clear hs2
        have hC2 := Holds.back2 (hC.alloc (.cells #[.slice (some ⟨g7, 0, none⟩) m m] 76)); have hG2 := hG.alloc (.cells #[.slice (some ⟨g7, 0, none⟩) m m] 76); clear hC hG; generalize wc.alloc (.cells #[.slice (some ⟨g7, 0, none⟩) m m] 76) = wq at *; generalize wc.heap.size = g8 at *; clear wc; have hC := hC2; have hG := hG2; clear hC2 hG2; obtain ⟨wc, rfl⟩ : ∃ x, x = wq := ⟨_, rfl⟩
        refine Y_two 9 16 rfl rfl (by kernel_rfl) (fun K hK => ?_) (fun K hK => ?_)
        have ⟨x1, x2, f1, f2⟩ := hs
        refine step_append_T tBoolss (by rfl) _ _ (by rfl) (by rfl) (by rfl) HRN0.out (Fr := HD0 ++ _) hC (ReadsAt.lit g8 (.slice (some ⟨g7, 0, none⟩) m m) 76 hC (by simp)) (by simp [Value.oneCell']) (by simp [maxLen]; omega) (by omega) ?_; intro A9 c9 wq H9 hR9 hC9 gg9   -- call
        clear x1 x2 f1 f2
        refine hK _ _ (HS.out _ _ hC9 (by simp)) (fun hs2 => ?_); clear hK K hs; have hs := hs2; clear hs2
        have hG2 := hG.trans gg9; clear hC hG gg9; have hC := hC9; have hG := hG2; clear hC9 hG2; clear wc; obtain ⟨wc, rfl⟩ : ∃ x, x = wq := ⟨_, rfl⟩
        refine Y_mid 16 rfl (by kernel_rfl) (fun K hK => ?_)
        have ⟨x1, x2, f1, f2⟩ := hs
        go_simp   -- buildSlice
        clear x1 x2 f1 f2
        refine hK _ _ (HS.out _ _ (hC.alloc _) (by simp)) (fun hs2 => ?_); clear hK K hs; have hs := hs2; clear hs2
        have hC2 := Holds.back2 (hC.alloc (.cells #[.slice (some ⟨g15, 0, none⟩) m m] 76)); have hG2 := hG.alloc (.cells #[.slice (some ⟨g15, 0, none⟩) m m] 76); clear hC hG; generalize wc.alloc (.cells #[.slice (some ⟨g15, 0, none⟩) m m] 76) = wq at *; generalize wc.heap.size = g16 at *; clear wc; have hC := hC2; have hG := hG2; clear hC2 hG2; obtain ⟨wc, rfl⟩ : ∃ x, x = wq := ⟨_, rfl⟩
        refine Y_mid 17 rfl (by kernel_rfl) (fun K hK => ?_)
        have ⟨x1, x2, f1, f2⟩ := hs
        refine step_append_T tBoolss (by rfl) _ _ (by rfl) (by rfl) (by rfl) HRD0.out (Fr := H9 ++ _) hC.swap (ReadsAt.lit g16 (.slice (some ⟨g15, 0, none⟩) m m) 76 hC (by simp)) (by simp [Value.oneCell']) (by simp [maxLen]; omega) (by omega) ?_; intro A17 c17 wq H17 hR17 hC17 gg17   -- call
        clear x1 x2 f1 f2
        refine hK _ _ (HS.out _ _ hC17 (by simp)) (fun hs2 => ?_); clear hK K hs; have hs := hs2; clear hs2
        have hG2 := hG.trans gg17; clear hC hG gg17; have hC := hC17.swap; have hG := hG2; clear hC17 hG2; clear wc; obtain ⟨wc, rfl⟩ : ∃ x, x = wq := ⟨_, rfl⟩
        rotate_left
        have ⟨x1, x2, f1, f2⟩ := hs
        go_simp   -- buildSlice
        clear x1 x2 f1 f2
        refine hK _ _ (HS.out _ _ (hC.alloc _) (by simp)) (fun hs2 => ?_); clear hK K hs; have hs := hs2; clear hs2
        have hC2 := Holds.back2 (hC.alloc (.cells #[.slice (some ⟨g15, 0, none⟩) m m] 76)); have hG2 := hG.alloc (.cells #[.slice (some ⟨g15, 0, none⟩) m m] 76); clear hC hG; generalize wc.alloc (.cells #[.slice (some ⟨g15, 0, none⟩) m m] 76) = wq at *; generalize wc.heap.size = g16 at *; clear wc; have hC := hC2; have hG := hG2; clear hC2 hG2; obtain ⟨wc, rfl⟩ : ∃ x, x = wq := ⟨_, rfl⟩
        refine Y_mid 9 rfl (by kernel_rfl) (fun K hK => ?_)
        have ⟨x1, x2, f1, f2⟩ := hs
        refine step_append_T tBoolss (by rfl) _ _ (by rfl) (by rfl) (by rfl) HRN0.out (Fr := HD0 ++ _) hC (ReadsAt.lit g8 (.slice (some ⟨g7, 0, none⟩) m m) 76 hC (by simp)) (by simp [Value.oneCell']) (by simp [maxLen]; omega) (by omega) ?_; intro A9 c9 wq H9 hR9 hC9 gg9   -- call
        clear x1 x2 f1 f2
        refine hK _ _ (HS.out _ _ hC9 (by simp)) (fun hs2 => ?_); clear hK K hs; have hs := hs2; clear hs2
        have hG2 := hG.trans gg9; clear hC hG gg9; have hC := hC9; have hG := hG2; clear hC9 hG2; clear wc; obtain ⟨wc, rfl⟩ : ∃ x, x = wq := ⟨_, rfl⟩
        refine Y_mid 17 rfl (by kernel_rfl) (fun K hK => ?_)
        have ⟨x1, x2, f1, f2⟩ := hs
        refine step_append_T tBoolss (by rfl) _ _ (by rfl) (by rfl) (by rfl) HRD0.out (Fr := H9 ++ _) hC.swap (ReadsAt.lit g16 (.slice (some ⟨g15, 0, none⟩) m m) 76 hC (by simp)) (by simp [Value.oneCell']) (by simp [maxLen]; omega) (by omega) ?_; intro A17 c17 wq H17 hR17 hC17 gg17   -- call
        clear x1 x2 f1 f2
        refine hK _ _ (HS.out _ _ hC17 (by simp)) (fun hs2 => ?_); clear hK K hs; have hs := hs2; clear hs2
        have hG2 := hG.trans gg17; clear hC hG gg17; have hC := hC17.swap; have hG := hG2; clear hC17 hG2; clear wc; obtain ⟨wc, rfl⟩ : ∃ x, x = wq := ⟨_, rfl⟩
        rotate_left
        have ⟨x1, x2, f1, f2⟩ := hs
        go_simp   -- buildSlice
        clear x1 x2 f1 f2
        refine hK _ _ (HS.out _ _ (hC.alloc _) (by simp)) (fun hs2 => ?_); clear hK K hs; have hs := hs2; clear hs2
        have hC2 := Holds.back2 (hC.alloc (.cells #[.slice (some ⟨g15, 0, none⟩) m m] 76)); have hG2 := hG.alloc (.cells #[.slice (some ⟨g15, 0, none⟩) m m] 76); clear hC hG; generalize wc.alloc (.cells #[.slice (some ⟨g15, 0, none⟩) m m] 76) = wq at *; generalize wc.heap.size = g16 at *; clear wc; have hC := hC2; have hG := hG2; clear hC2 hG2; obtain ⟨wc, rfl⟩ : ∃ x, x = wq := ⟨_, rfl⟩
        refine Y_mid 8 rfl (by kernel_rfl) (fun K hK => ?_)
        have ⟨x1, x2, f1, f2⟩ := hs
        go_simp   -- buildSlice
        clear x1 x2 f1 f2
        refine hK _ _ (HS.out _ _ (hC.alloc _) (by simp)) (fun hs2 => ?_); clear hK K hs; have hs := hs2; clear hs2
        have hC2 := Holds.back2 (hC.alloc (.cells #[.slice (some ⟨g7, 0, none⟩) m m] 76)); have hG2 := hG.alloc (.cells #[.slice (some ⟨g7, 0, none⟩) m m] 76); clear hC hG; generalize wc.alloc (.cells #[.slice (some ⟨g7, 0, none⟩) m m] 76) = wq at *; generalize wc.heap.size = g8 at *; clear wc; have hC := hC2; have hG := hG2; clear hC2 hG2; obtain ⟨wc, rfl⟩ : ∃ x, x = wq := ⟨_, rfl⟩
        refine Y_mid 9 rfl (by kernel_rfl) (fun K hK => ?_)
        have ⟨x1, x2, f1, f2⟩ := hs
        refine step_append_T tBoolss (by rfl) _ _ (by rfl) (by rfl) (by rfl) HRN0.out (Fr := HD0 ++ _) hC (ReadsAt.lit g8 (.slice (some ⟨g7, 0, none⟩) m m) 76 hC (by simp)) (by simp [Value.oneCell']) (by simp [maxLen]; omega) (by omega) ?_; intro A9 c9 wq H9 hR9 hC9 gg9   -- call
        clear x1 x2 f1 f2
        refine hK _ _ (HS.out _ _ hC9 (by simp)) (fun hs2 => ?_); clear hK K hs; have hs := hs2; clear hs2
        have hG2 := hG.trans gg9; clear hC hG gg9; have hC := hC9; have hG := hG2; clear hC9 hG2; clear wc; obtain ⟨wc, rfl⟩ : ∃ x, x = wq := ⟨_, rfl⟩
        refine Y_mid 17 rfl (by kernel_rfl) (fun K hK => ?_)
        have ⟨x1, x2, f1, f2⟩ := hs
        refine step_append_T tBoolss (by rfl) _ _ (by rfl) (by rfl) (by rfl) HRD0.out (Fr := H9 ++ _) hC.swap (ReadsAt.lit g16 (.slice (some ⟨g15, 0, none⟩) m m) 76 hC (by simp)) (by simp [Value.oneCell']) (by simp [maxLen]; omega) (by omega) ?_; intro A17 c17 wq H17 hR17 hC17 gg17   -- call
        clear x1 x2 f1 f2
        refine hK _ _ (HS.out _ _ hC17 (by simp)) (fun hs2 => ?_); clear hK K hs; have hs := hs2; clear hs2
        have hG2 := hG.trans gg17; clear hC hG gg17; have hC := hC17.swap; have hG := hG2; clear hC17 hG2; clear wc; obtain ⟨wc, rfl⟩ : ∃ x, x = wq := ⟨_, rfl⟩
        rotate_left
        have ⟨x1, x2, f1, f2⟩ := hs
        go_simp   -- makeSlice
        clear x1 x2 f1 f2
        refine hK _ _ (HS.out _ _ (hC.alloc _) (by simp)) (fun hs2 => ?_); clear hK K hs; have hs := hs2; clear hs2
        have hC2 := Holds.back2 (hC.alloc (.cells bs 4)); have hG2 := hG.alloc (.cells bs 4); clear hC hG; generalize wc.alloc (.cells bs 4) = wq at *; generalize wc.heap.size = g15 at *; clear wc; have hC := hC2; have hG := hG2; clear hC2 hG2; obtain ⟨wc, rfl⟩ : ∃ x, x = wq := ⟨_, rfl⟩
        refine Y_two 7 16 rfl rfl (by kernel_rfl) (fun K hK => ?_) (fun K hK => ?_)
        have ⟨x1, x2, f1, f2⟩ := hs
        go_simp   -- makeSlice
        clear x1 x2 f1 f2
        refine hK _ _ (HS.out _ _ (hC.alloc _) (by simp)) (fun hs2 => ?_); clear hK K hs; have hs := hs2; clear hs2
        have hC2 := Holds.back2 (hC.alloc (.cells bs 4)); have hG2 := hG.alloc (.cells bs 4); clear hC hG; generalize wc.alloc (.cells bs 4) = wq at *; generalize wc.heap.size = g7 at *; clear wc; have hC := hC2; have hG := hG2; clear hC2 hG2; obtain ⟨wc, rfl⟩ : ∃ x, x = wq := ⟨_, rfl⟩
        refine Y_two 8 16 rfl rfl (by kernel_rfl) (fun K hK => ?_) (fun K hK => ?_)
        have ⟨x1, x2, f1, f2⟩ := hs
        go_simp   -- buildSlice
        clear x1 x2 f1 f2
        refine hK _ _ (HS.out _ _ (hC.alloc _) (by simp)) (fun hs2 => ?_); clear hK K hs; have hs := hs2; clear hs2
        have hC2 := Holds.back2 (hC.alloc (.cells #[.slice (some ⟨g7, 0, none⟩) m m] 76)); have hG2 := hG.alloc (.cells #[.slice (some ⟨g7, 0, none⟩) m m] 76); clear hC hG; generalize wc.alloc (.cells #[.slice (some ⟨g7, 0, none⟩) m m] 76) = wq at *; generalize wc.heap.size = g8 at *; clear wc; have hC := hC2; have hG := hG2; clear hC2 hG2; obtain ⟨wc, rfl⟩ : ∃ x, x = wq := ⟨_, rfl⟩
        refine Y_two 9 16 rfl rfl (by kernel_rfl) (fun K hK => ?_) (fun K hK => ?_)
        have ⟨x1, x2, f1, f2⟩ := hs
        refine step_append_T tBoolss (by rfl) _ _ (by rfl) (by rfl) (by rfl) HRN0.out (Fr := HD0 ++ _) hC (ReadsAt.lit g8 (.slice (some ⟨g7, 0, none⟩) m m) 76 hC (by simp)) (by simp [Value.oneCell']) (by simp [maxLen]; omega) (by omega) ?_; intro A9 c9 wq H9 hR9 hC9 gg9   -- call
        clear x1 x2 f1 f2
        refine hK _ _ (HS.out _ _ hC9 (by simp)) (fun hs2 => ?_); clear hK K hs; have hs := hs2; clear hs2
        have hG2 := hG.trans gg9; clear hC hG gg9; have hC := hC9; have hG := hG2; clear hC9 hG2; clear wc; obtain ⟨wc, rfl⟩ : ∃ x, x = wq := ⟨_, rfl⟩
        refine Y_mid 16 rfl (by kernel_rfl) (fun K hK => ?_)
        have ⟨x1, x2, f1, f2⟩ := hs
        go_simp   -- buildSlice
        clear x1 x2 f1 f2
        refine hK _ _ (HS.out _ _ (hC.alloc _) (by simp)) (fun hs2 => ?_); clear hK K hs; have hs := hs2; clear hs2
        have hC2 := Holds.back2 (hC.alloc (.cells #[.slice (some ⟨g15, 0, none⟩) m m] 76)); have hG2 := hG.alloc (.cells #[.slice (some ⟨g15, 0, none⟩) m m] 76); clear hC hG; generalize wc.alloc (.cells #[.slice (some ⟨g15, 0, none⟩) m m] 76) = wq at *; generalize wc.heap.size = g16 at *; clear wc; have hC := hC2; have hG := hG2; clear hC2 hG2; obtain ⟨wc, rfl⟩ : ∃ x, x = wq := ⟨_, rfl⟩
        refine Y_mid 17 rfl (by kernel_rfl) (fun K hK => ?_)
        have ⟨x1, x2, f1, f2⟩ := hs
        refine step_append_T tBoolss (by rfl) _ _ (by rfl) (by rfl) (by rfl) HRD0.out (Fr := H9 ++ _) hC.swap (ReadsAt.lit g16 (.slice (some ⟨g15, 0, none⟩) m m) 76 hC (by simp)) (by simp [Value.oneCell']) (by simp [maxLen]; omega) (by omega) ?_; intro A17 c17 wq H17 hR17 hC17 gg17   -- call
        clear x1 x2 f1 f2
        refine hK _ _ (HS.out _ _ hC17 (by simp)) (fun hs2 => ?_); clear hK K hs; have hs := hs2; clear hs2
        have hG2 := hG.trans gg17; clear hC hG gg17; have hC := hC17.swap; have hG := hG2; clear hC17 hG2; clear wc; obtain ⟨wc, rfl⟩ : ∃ x, x = wq := ⟨_, rfl⟩
        rotate_left
        have ⟨x1, x2, f1, f2⟩ := hs
        go_simp   -- buildSlice
        clear x1 x2 f1 f2
        refine hK _ _ (HS.out _ _ (hC.alloc _) (by simp)) (fun hs2 => ?_); clear hK K hs; have hs := hs2; clear hs2
        have hC2 := Holds.back2 (hC.alloc (.cells #[.slice (some ⟨g15, 0, none⟩) m m] 76)); have hG2 := hG.alloc (.cells #[.slice (some ⟨g15, 0, none⟩) m m] 76); clear hC hG; generalize wc.alloc (.cells #[.slice (some ⟨g15, 0, none⟩) m m] 76) = wq at *; generalize wc.heap.size = g16 at *; clear wc; have hC := hC2; have hG := hG2; clear hC2 hG2; obtain ⟨wc, rfl⟩ : ∃ x, x = wq := ⟨_, rfl⟩
        refine Y_mid 9 rfl (by kernel_rfl) (fun K hK => ?_)
        have ⟨x1, x2, f1, f2⟩ := hs
        refine step_append_T tBoolss (by rfl) _ _ (by rfl) (by rfl) (by rfl) HRN0.out (Fr := HD0 ++ _) hC (ReadsAt.lit g8 (.slice (some ⟨g7, 0, none⟩) m m) 76 hC (by simp)) (by simp [Value.oneCell']) (by simp [maxLen]; omega) (by omega) ?_; intro A9 c9 wq H9 hR9 hC9 gg9   -- call
        clear x1 x2 f1 f2
        refine hK _ _ (HS.out _ _ hC9 (by simp)) (fun hs2 => ?_); clear hK K hs; have hs := hs2; clear hs2
        have hG2 := hG.trans gg9; clear hC hG gg9; have hC := hC9; have hG := hG2; clear hC9 hG2; clear wc; obtain ⟨wc, rfl⟩ : ∃ x, x = wq := ⟨_, rfl⟩
        refine Y_mid 17 rfl (by kernel_rfl) (fun K hK => ?_)
        have ⟨x1, x2, f1, f2⟩ := hs
        refine step_append_T tBoolss (by rfl) _ _ (by rfl) (by rfl) (by rfl) HRD0.out (Fr := H9 ++ _) hC.swap (ReadsAt.lit g16 (.slice (some ⟨g15, 0, none⟩) m m) 76 hC (by simp)) (by simp [Value.oneCell']) (by simp [maxLen]; omega) (by omega) ?_; intro A17 c17 wq H17 hR17 hC17 gg17   -- call
        clear x1 x2 f1 f2
        refine hK _ _ (HS.out _ _ hC17 (by simp)) (fun hs2 => ?_); clear hK K hs; have hs := hs2; clear hs2
        have hG2 := hG.trans gg17; clear hC hG gg17; have hC := hC17.swap; have hG := hG2; clear hC17 hG2; clear wc; obtain ⟨wc, rfl⟩ : ∃ x, x = wq := ⟨_, rfl⟩
        rotate_left
        have ⟨x1, x2, f1, f2⟩ := hs
        go_simp   -- buildSlice
        clear x1 x2 f1 f2
        refine hK _ _ (HS.out _ _ (hC.alloc _) (by simp)) (fun hs2 => ?_); clear hK K hs; have hs := hs2; clear hs2
        have hC2 := Holds.back2 (hC.alloc (.cells #[.slice (some ⟨g15, 0, none⟩) m m] 76)); have hG2 := hG.alloc (.cells #[.slice (some ⟨g15, 0, none⟩) m m] 76); clear hC hG; generalize wc.alloc (.cells #[.slice (some ⟨g15, 0, none⟩) m m] 76) = wq at *; generalize wc.heap.size = g16 at *; clear wc; have hC := hC2; have hG := hG2; clear hC2 hG2; obtain ⟨wc, rfl⟩ : ∃ x, x = wq := ⟨_, rfl⟩
        refine Y_mid 8 rfl (by kernel_rfl) (fun K hK => ?_)
        have ⟨x1, x2, f1, f2⟩ := hs
        go_simp   -- buildSlice
        clear x1 x2 f1 f2
        refine hK _ _ (HS.out _ _ (hC.alloc _) (by simp)) (fun hs2 => ?_); clear hK K hs; have hs := hs2; clear hs2
        have hC2 := Holds.back2 (hC.alloc (.cells #[.slice (some ⟨g7, 0, none⟩) m m] 76)); have hG2 := hG.alloc (.cells #[.slice (some ⟨g7, 0, none⟩) m m] 76); clear hC hG; generalize wc.alloc (.cells #[.slice (some ⟨g7, 0, none⟩) m m] 76) = wq at *; generalize wc.heap.size = g8 at *; clear wc; have hC := hC2; have hG := hG2; clear hC2 hG2; obtain ⟨wc, rfl⟩ : ∃ x, x = wq := ⟨_, rfl⟩
        refine Y_mid 9 rfl (by kernel_rfl) (fun K hK => ?_)
        have ⟨x1, x2, f1, f2⟩ := hs
        refine step_append_T tBoolss (by rfl) _ _ (by rfl) (by rfl) (by rfl) HRN0.out (Fr := HD0 ++ _) hC (ReadsAt.lit g8 (.slice (some ⟨g7, 0, none⟩) m m) 76 hC (by simp)) (by simp [Value.oneCell']) (by simp [maxLen]; omega) (by omega) ?_; intro A9 c9 wq H9 hR9 hC9 gg9   -- call
        clear x1 x2 f1 f2
        refine hK _ _ (HS.out _ _ hC9 (by simp)) (fun hs2 => ?_); clear hK K hs; have hs := hs2; clear hs2
        have hG2 := hG.trans gg9; clear hC hG gg9; have hC := hC9; have hG := hG2; clear hC9 hG2; clear wc; obtain ⟨wc, rfl⟩ : ∃ x, x = wq := ⟨_, rfl⟩
        refine Y_mid 17 rfl (by kernel_rfl) (fun K hK => ?_)
        have ⟨x1, x2, f1, f2⟩ := hs
        refine step_append_T tBoolss (by rfl) _ _ (by rfl) (by rfl) (by rfl) HRD0.out (Fr := H9 ++ _) hC.swap (ReadsAt.lit g16 (.slice (some ⟨g15, 0, none⟩) m m) 76 hC (by simp)) (by simp [Value.oneCell']) (by simp [maxLen]; omega) (by omega) ?_; intro A17 c17 wq H17 hR17 hC17 gg17   -- call
        clear x1 x2 f1 f2
        refine hK _ _ (HS.out _ _ hC17 (by simp)) (fun hs2 => ?_); clear hK K hs; have hs := hs2; clear hs2
        have hG2 := hG.trans gg17; clear hC hG gg17; have hC := hC17.swap; have hG := hG2; clear hC17 hG2; clear wc; obtain ⟨wc, rfl⟩ : ∃ x, x = wq := ⟨_, rfl⟩
        rotate_left
        have ⟨x1, x2, f1, f2⟩ := hs
        go_simp   -- buildSlice
        clear x1 x2 f1 f2
        refine hK _ _ (HS.out _ _ (hC.alloc _) (by simp)) (fun hs2 => ?_); clear hK K hs; have hs := hs2; clear hs2
        have hC2 := Holds.back2 (hC.alloc (.cells #[.slice (some ⟨g15, 0, none⟩) m m] 76)); have hG2 := hG.alloc (.cells #[.slice (some ⟨g15, 0, none⟩) m m] 76); clear hC hG; generalize wc.alloc (.cells #[.slice (some ⟨g15, 0, none⟩) m m] 76) = wq at *; generalize wc.heap.size = g16 at *; clear wc; have hC := hC2; have hG := hG2; clear hC2 hG2; obtain ⟨wc, rfl⟩ : ∃ x, x = wq := ⟨_, rfl⟩
        refine Y_mid 7 rfl (by kernel_rfl) (fun K hK => ?_)
        have ⟨x1, x2, f1, f2⟩ := hs
        go_simp   -- makeSlice
        clear x1 x2 f1 f2
        refine hK _ _ (HS.out _ _ (hC.alloc _) (by simp)) (fun hs2 => ?_); clear hK K hs; have hs := hs2; clear hs2
        have hC2 := Holds.back2 (hC.alloc (.cells bs 4)); have hG2 := hG.alloc (.cells bs 4); clear hC hG; generalize wc.alloc (.cells bs 4) = wq at *; generalize wc.heap.size = g7 at *; clear wc; have hC := hC2; have hG := hG2; clear hC2 hG2; obtain ⟨wc, rfl⟩ : ∃ x, x = wq := ⟨_, rfl⟩
        refine Y_mid 8 rfl (by kernel_rfl) (fun K hK => ?_)
        have ⟨x1, x2, f1, f2⟩ := hs
        go_simp   -- buildSlice
        clear x1 x2 f1 f2
        refine hK _ _ (HS.out _ _ (hC.alloc _) (by simp)) (fun hs2 => ?_); clear hK K hs; have hs := hs2; clear hs2
        have hC2 := Holds.back2 (hC.alloc (.cells #[.slice (some ⟨g7, 0, none⟩) m m] 76)); have hG2 := hG.alloc (.cells #[.slice (some ⟨g7, 0, none⟩) m m] 76); clear hC hG; generalize wc.alloc (.cells #[.slice (some ⟨g7, 0, none⟩) m m] 76) = wq at *; generalize wc.heap.size = g8 at *; clear wc; have hC := hC2; have hG := hG2; clear hC2 hG2; obtain ⟨wc, rfl⟩ : ∃ x, x = wq := ⟨_, rfl⟩
        refine Y_mid 9 rfl (by kernel_rfl) (fun K hK => ?_)
        have ⟨x1, x2, f1, f2⟩ := hs
        refine step_append_T tBoolss (by rfl) _ _ (by rfl) (by rfl) (by rfl) HRN0.out (Fr := HD0 ++ _) hC (ReadsAt.lit g8 (.slice (some ⟨g7, 0, none⟩) m m) 76 hC (by simp)) (by simp [Value.oneCell']) (by simp [maxLen]; omega) (by omega) ?_; intro A9 c9 wq H9 hR9 hC9 gg9   -- call
        clear x1 x2 f1 f2
        refine hK _ _ (HS.out _ _ hC9 (by simp)) (fun hs2 => ?_); clear hK K hs; have hs := hs2; clear hs2
        have hG2 := hG.trans gg9; clear hC hG gg9; have hC := hC9; have hG := hG2; clear hC9 hG2; clear wc; obtain ⟨wc, rfl⟩ : ∃ x, x = wq := ⟨_, rfl⟩
        refine Y_mid 17 rfl (by kernel_rfl) (fun K hK => ?_)
        have ⟨x1, x2, f1, f2⟩ := hs
        refine step_append_T tBoolss (by rfl) _ _ (by rfl) (by rfl) (by rfl) HRD0.out (Fr := H9 ++ _) hC.swap (ReadsAt.lit g16 (.slice (some ⟨g15, 0, none⟩) m m) 76 hC (by simp)) (by simp [Value.oneCell']) (by simp [maxLen]; omega) (by omega) ?_; intro A17 c17 wq H17 hR17 hC17 gg17   -- call
        clear x1 x2 f1 f2
        refine hK _ _ (HS.out _ _ hC17 (by simp)) (fun hs2 => ?_); clear hK K hs; have hs := hs2; clear hs2
        have hG2 := hG.trans gg17; clear hC hG gg17; have hC := hC17.swap; have hG := hG2; clear hC17 hG2; clear wc; obtain ⟨wc, rfl⟩ : ∃ x, x = wq := ⟨_, rfl⟩
        rotate_left
        all_goals
          have hD : Holds wc ((b, .cells #[sv, tv, .slice An k cn, .slice Ad k cd, .int .i64 (m : Int)] 143) :: (Hs2 ++ (Ht2 ++ ((H9 ++ (HN1 ++ [(g7, .cells bs 4)])) ++ ((H17 ++ (HD1 ++ [(g15, .cells bs 4)])) ++ Fr))))) := hC.sub (by (repeat' (first | refine sub_append ?_ ?_ | refine sub_cons ?_ ?_ | exact sub_nil)); all_goals first | (intro p hp; simp only [List.mem_append, List.mem_cons, hp, true_or, or_true]) | simp only [List.mem_append, List.mem_cons, true_or, or_true]) (fun b => by simp only [keyc_append, keyc_cons, keyc_nil]; omega); clear hC
          refine Y_takeT 18 (some 65) (v := ?_) rfl rfl (by kernel_rfl) (fun _ _ _ h => h) (by rfl) hs ?_ ?_
          rotate_left
          · intro wx; go_simp; try with_reducible rfl
          simp only [Act.put, List.setIfInBounds_toArray, List.set_cons_succ, List.set_cons_zero]
          refine Y_takeT 19 (some 66) (v := ?_) rfl rfl (by kernel_rfl) (fun _ _ _ h => h) (by rfl) hs ?_ ?_
          rotate_left
          · intro wx; go_simp; try with_reducible rfl
          simp only [Act.put, List.setIfInBounds_toArray, List.set_cons_succ, List.set_cons_zero]
          refine Y_late 20 rfl (by kernel_rfl) (by kernel_rfl) (fun K hK => ?_)
          have ⟨x1, x2, f1, f2⟩ := hs
          go_simp   -- store
          clear x1 x2 f1 f2 hs
          refine hK _ _ ?_; clear hK K
          have hE : Holds (wc.setCell ⟨b, 2, none⟩ (.slice A9 (k + 1) c9)) ((b, .cells #[sv, tv, .slice A9 (k + 1) c9, .slice Ad k cd, .int .i64 (m : Int)] 143) :: (Hs2 ++ (Ht2 ++ ((H9 ++ (HN1 ++ [(g7, .cells bs 4)])) ++ ((H17 ++ (HD1 ++ [(g15, .cells bs 4)])) ++ Fr))))) := Holds.set hD 2 (.slice A9 (k + 1) c9); have y1 := hE.hcell 3; have y2 := hE.hfrozen 3; simp only [List.getElem?_toArray, List.getElem?_cons_zero, List.getElem?_cons_succ] at y1
          refine Y_late 21 rfl (by kernel_rfl) (by kernel_rfl) (fun K hK => ?_)
          go_simp   -- nilCheck
          refine hK _ _ ?_; clear hK K
          refine Y_late 22 rfl (by kernel_rfl) (by kernel_rfl) (fun K hK => ?_)
          go_simp   -- fieldAddr
          refine hK _ _ ?_; clear hK K
          refine Y_late 23 rfl (by kernel_rfl) (by kernel_rfl) (fun K hK => ?_)
          go_simp   -- store
          refine hK _ _ ?_; clear hK K
          refine Y_done (by kernel_rfl) ?_ _
          have hF : Holds ((wc.setCell ⟨b, 2, none⟩ (.slice A9 (k + 1) c9)).setCell ⟨b, 3, none⟩ (.slice A17 (k + 1) c17)) ((b, .cells #[sv, tv, .slice A9 (k + 1) c9, .slice A17 (k + 1) c17, .int .i64 (m : Int)] 143) :: (Hs2 ++ (Ht2 ++ ((H9 ++ (HN1 ++ [(g7, .cells bs 4)])) ++ ((H17 ++ (HD1 ++ [(g15, .cells bs 4)])) ++ Fr))))) := Holds.set hE 3 (.slice A17 (k + 1) c17)
          have e1 := HADDN.out (.slice A9 (k + 1) c9) H9 _ (List.replicate m false) [(g7, .cells bs 4)] rfl ⟨_, rfl, by simpa using HBR.out g7⟩ hR9
          have e2 := HADDD.out (.slice A17 (k + 1) c17) H17 _ (List.replicate m false) [(g15, .cells bs 4)] rfl ⟨_, rfl, by simpa using HBR.out g15⟩ hR17
          rw [← List.replicate_succ'] at e1 e2
          have hfin : RYNewTo b n m w Fr (.int .i64 ((k : Int) + 1)) ((wc.setCell ⟨b, 2, none⟩ (.slice A9 (k + 1) c9)).setCell ⟨b, 3, none⟩ (.slice A17 (k + 1) c17)) := ⟨k + 1, _, _, _, _, _, _, _, _, by omega, by go_num, HS2.out, HT2.out, e1, e2, hF, (hG.setCell _ _).setCell _ _⟩
          have HFIN := Lib.hid hfin
          clear hfin e1 e2 hF hE hD hG hR9 hR17 y1 y2
          go_wp2_with fail
          go_roundw
          case rel => exact HFIN.out
          case measure => simp [intOf]; omega
    · obtain rfl : k = n := by omega
      go_wp2_with fail
      go_ret
      refine ⟨_, _, rfl, ⟨b, sv, tv, nv, dv, Hs, Ht, Hn, Hd, rfl, ?_, ?_, ?_, ?_, ?_, ?_, hm1, hm2, rfl⟩, ?_, hgr⟩
      · rw [Ynew, List.map_replicate]; exact hs
      · rw [Ynew, List.map_replicate]; exact ht
      · rw [Ynew, needsOf, List.map_replicate, List.map_replicate]; exact hn
      · rw [Ynew, dirtsOf, List.map_replicate, List.map_replicate]; exact hd0
      · intro x hx
        rw [Ynew] at hx
        rw [List.eq_of_mem_replicate hx]
        refine ⟨⟨Int.le_refl _, by show (0:Int) ≤ 8; omega, by simpa using hm2, by show (0:Int) ≤ 1 ∧ (1:Int) ≤ 100; omega⟩, by simp, by show (1:Int) ≤ 1; omega⟩
      · simpa [Ynew] using hn2
      · simpa using hHr
end Go.Proofs.Yteaeahhjkagbdaa
