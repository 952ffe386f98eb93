/-
  sculleryref21's Write.
-/
import Derived.Test.YteaeahhjkagbdaaRef21
import Derived.Test.YteaeahhjkagbdaaRows3
namespace Go.Proofs.Yteaeahhjkagbdaa
open Go.RowKit
set_option linter.unusedVariables false
set_option linter.unusedSimpArgs false

set_option maxRecDepth 20000 in
set_option maxHeartbeats 1000000 in
theorem rwrite_data (v : Value) (m : BM) (H Fr : HL) (i : Int) (bv : Value) (bs : List UInt8) (code : Int) (dv : Value) (data : List UInt8) (w : World) (h : IsRM v m H) (hH : Holds w (H ++ Fr))
    (hfd : FrBytes Fr dv data) (hd : data.isEmpty = false) :
    Calls Try.prog 21 #[v, .int .i64 i, bv, .agg #[.int .i64 code, dv]] w (RetUpd (fun H => IsRM v m H) (.bool false) w Fr) := by
  have hd0 := hfd w hH.right
  have hnd := ReadsAt.le hd0
  obtain ⟨A2, q2, rfl⟩ := hd0.val
  unfold maxLen at hnd
  clear hd0
  have HH := Lib.hid h
  have hd2 : 0 < data.length := by rcases data with _ | _ <;> simp_all
  have hd3 : (0 : Int) < (data.length : Int) := by omega
  have HE := Lib.hid (hH.alloc' (.cells #[.int .i64 code, .slice A2 data.length q2] 35))
  clear hd h hH
  go_enter Try.func21, Try.ntmps21
  go_wp2
  go_ret
  exact ⟨rfl, H, HH.out, HE.out, (Grew.refl w).alloc _⟩

set_option maxRecDepth 100000 in
set_option maxHeartbeats 4000000 in
theorem rwrite_also (v : Value) (m : BM) (H Fr : HL) (i : Int) (bv : Value) (bs : List UInt8) (code : Int) (A2 : Option Addr) (q2 : Nat) (w : World) (h : IsRM v m H) (hH : Holds w (H ++ Fr))
    (hfb : FrBytes Fr bv bs) (hbs : bs.length ≤ 1000000) (hsm : (m.at_ i).length ≤ 1000000) (ht : m.there i = true) (hz : (bs.length : Int) = m.size) (hcode : code = 4 ∨ (code = 5 ∧ m.given = false) ∨ (code = 7 ∧ m.given = false)) :
    Calls Try.prog 21 #[v, .int .i64 i, bv, .agg #[.int .i64 code, .slice A2 0 q2]] w (RetUpd (fun H => IsRM v (m.also i bs) H) (.bool true) w Fr) := by
  have hb0 := hfb w hH.right
  obtain ⟨A1, q1, rfl⟩ := hb0.val
  clear hb0
  obtain ⟨b, mv, Hm, rfl, hr, rfl⟩ := h
  obtain ⟨A, c, rfl, hlc, hcm⟩ := hr.val
  have hh0 : IsRM (.pointer (some ⟨b, 0, none⟩)) m ((b, .cells #[.slice A m.may.length c, .int .i64 m.size, .bool m.given] 45) :: Hm) := ⟨b, _, Hm, rfl, hr, rfl⟩
  have HH := Lib.hid hh0; clear hh0
  have HR := Lib.hid hr; clear hr
  have hHA : Holds (w.alloc (.cells #[.int .i64 code, .slice A2 0 q2] 35)) (Hm ++ ((b, .cells #[.slice A m.may.length c, .int .i64 m.size, .bool m.given] 45) :: ((w.heap.size, .cells #[.int .i64 code, .slice A2 0 q2] 35) :: Fr))) := (hH.alloc _).sub (fun p hp => by simp only [List.mem_append, List.mem_cons, List.not_mem_nil, or_false] at hp ⊢; grind) (fun b => by simp only [keyc_append, keyc_cons, keyc_nil]; omega)
  have HE := Lib.hid (hH.alloc' (.cells #[.int .i64 code, .slice A2 0 q2] 35))
  have hG := (Grew.refl w).alloc (.cells #[.int .i64 code, .slice A2 0 q2] 35)
  have e0 := hHA.right.hcell 0
  have e1 := hHA.right.hcell 1
  have e2 := hHA.right.hcell 2
  simp only [List.getElem?_toArray, List.getElem?_cons_zero, List.getElem?_cons_succ] at e0 e1 e2
  have hfbA : ∀ (wx : World) (J : List (Nat × Obj)), Holds wx (J ++ ((b, .cells #[.slice A m.may.length c, .int .i64 m.size, .bool m.given] 45) :: ((w.heap.size, .cells #[.int .i64 code, .slice A2 0 q2] 35) :: Fr))) → BytesAt wx (.slice A1 bs.length q1) bs := fun wx J hx => hfb wx (Holds.right (A := [_, _]) hx.right)
  have HFB := Lib.hid hfbA; clear hfbA
  have hz1 : ((bs.length : Int) != m.size) = false := by simpa using hz
  have HZ := Lib.hid hz
  clear hz
  obtain ⟨k, rfl, hk, hgk⟩ := BM.at_get ht
  obtain ⟨g, cap, cc, Hi, Hr, hgv, hcap, hcap2, _, hcl, ⟨sv, rfl, hrow0⟩, hfacts, hopen, _, hput⟩ := HR.out.open2 hgk
  injection hgv with hgv1 _ hgv3
  subst hgv1; subst hgv3
  have h1 : ¬ ((k : Int) < 0) := by omega
  have h2 : ¬ ((m.may.length : Int) ≤ (k : Int)) := by omega
  have HPUT := Lib.hid hput
  have HF := Lib.hid hfacts
  have HO := Lib.hid hopen
  have HROW := Lib.hid hrow0
  clear hfacts hopen hput hrow0 hcl hgk ht
  have HHA := Lib.hid hHA
  have HHB := Lib.hid (show Holds (w.alloc (.cells #[.int .i64 code, .slice A2 0 q2] 35)) (([] : List (Nat × Obj)) ++ (Hm ++ ((b, .cells #[.slice (some ⟨g, 0, none⟩) m.may.length c, .int .i64 m.size, .bool m.given] 45) :: ((w.heap.size, .cells #[.int .i64 code, .slice A2 0 q2] 35) :: Fr)))) from hHA)
  clear hHA
  have hcan := fun (wx : World) (J : List (Nat × Obj)) hx hy => rcan_any (.pointer (some ⟨b, 0, none⟩)) m _ J k (.slice A1 bs.length q1) bs wx HH.out hx hy
  unfold BM.also
  cases hc : m.can (k : Int) bs with
  | true =>
    rw [hc] at hcan
    have HC := Lib.hid hcan; clear hcan hc
    rw [if_pos rfl]
    rcases hcode with rfl | ⟨rfl, hg⟩ | ⟨rfl, hg⟩
    all_goals
      try rw [hg] at e2
      go_enter Try.func21, Try.ntmps21
      go_wp2_with (at_builtin; refine wpList_append_T tBytes (by rfl) (.const (.slice none 0 0)) (.tmp 42) (by rfl) (by rfl) (by rfl) (IsRow.nil _ _) HHB.out (HFB.out _ _ HHA.out) (by intro y hy; obtain ⟨x, _, rfl⟩ := List.mem_map.1 hy; rfl) (by simp [maxLen]; omega) (by omega) ?_; intro A' c' w' H' hrow hH2 hg2; have k0 := hH2.right.right.hcell 0; have k2 := hH2.right.right.hcell 2; have k4 := hH2.right.right.hfrozen 2; have k3 := (Holds.right (A := [_]) hH2.right.right).hcell 0; simp only [List.getElem?_toArray, List.getElem?_cons_zero, List.getElem?_cons_succ] at k0 k2 k3)
      refine (HC.out w' (H' ++ Fr) (hH2.sub (fun p hp => by simp only [List.mem_append, List.mem_cons, List.not_mem_nil, or_false] at hp ⊢; grind) (fun b => by simp only [keyc_append, keyc_cons, keyc_nil]; omega)) (HFB.out _ _ hH2.assoc')).mono ?_
      rintro e w4 ⟨rfl, q, rfl⟩
      go_wp2
      go_ret
      exact ⟨rfl, _, HH.out, (hH2.sub (fun p hp => by simp only [List.mem_append, List.mem_cons, List.not_mem_nil, or_false] at hp ⊢; grind) (fun b => by simp only [keyc_append, keyc_cons, keyc_nil]; omega)).drewN q, (hG.trans hg2).drewN q⟩
  | false =>
    rw [hc] at hcan
    have HC := Lib.hid hcan; clear hcan hc
    rw [if_neg (by simp)]
    obtain ⟨A3, c3, rfl, hc3, hc4⟩ := HROW.out.val
    obtain ⟨cells, H0, Hq, hHi, hrow1, hone, hadd⟩ := Rows2.parts3 HROW.out
    have hone := IsBys.one_cell hone
    have hS : ∀ (wx : World) (J : List (Nat × Obj)), Holds wx (J ++ (Hr ++ ((b, .cells #[.slice (some ⟨g, 0, none⟩) m.may.length c, .int .i64 m.size, .bool m.given] 45) :: Fr))) → wx.cell? ⟨b, 0, none⟩ = some (.slice (some ⟨g, 0, none⟩) m.may.length c) ∧ wx.cell? ⟨g, k, none⟩ = some (.slice A3 (m.at_ (k : Int)).length c3) ∧ wx.frozen? ⟨g, k, none⟩ = false := by
      intro wx J hx
      obtain ⟨_, h7⟩ := HF.out wx _ hx.right
      obtain ⟨h8, h9⟩ := h7 0 (by omega)
      rw [Nat.mul_one, Nat.add_zero] at h8 h9
      exact ⟨hx.right.right.hcell 0, h8, h9⟩
    have HS := Lib.hid hS; clear hS
    have HADD := Lib.hid hadd; clear hadd
    subst hHi
    rcases hcode with rfl | ⟨rfl, hg⟩ | ⟨rfl, hg⟩
    all_goals
      try rw [hg] at e2
      go_enter Try.func21, Try.ntmps21
      go_wp2_with (at_builtin; refine wpList_append_T tBytes (by rfl) (.const (.slice none 0 0)) (.tmp 42) (by rfl) (by rfl) (by rfl) (IsRow.nil _ _) HHB.out (HFB.out _ _ HHA.out) (by intro y hy; obtain ⟨x, _, rfl⟩ := List.mem_map.1 hy; rfl) (by simp [maxLen]; omega) (by omega) ?_; intro A' c' w' H' hrow hH2 hg2; have k0 := hH2.right.right.hcell 0; have k2 := hH2.right.right.hcell 2; have k4 := hH2.right.right.hfrozen 2; have k3 := (Holds.right (A := [_]) hH2.right.right).hcell 0; simp only [List.getElem?_toArray, List.getElem?_cons_zero, List.getElem?_cons_succ] at k0 k2 k3)
      rw [Nat.zero_add] at hrow
      refine (HC.out w' (H' ++ Fr) (hH2.sub (fun p hp => by simp only [List.mem_append, List.mem_cons, List.not_mem_nil, or_false] at hp ⊢; grind) (fun b => by simp only [keyc_append, keyc_cons, keyc_nil]; omega)) (HFB.out _ _ hH2.assoc')).mono ?_
      rintro e w4 ⟨rfl, q, rfl⟩
      have hX0 : Holds w' (Hm ++ (H' ++ ((b, .cells #[.slice (some ⟨g, 0, none⟩) m.may.length c, .int .i64 m.size, .bool m.given] 45) :: Fr))) := hH2.sub (fun p hp => by simp only [List.mem_append, List.mem_cons, List.not_mem_nil, or_false] at hp ⊢; grind) (fun b => by simp only [keyc_append, keyc_cons, keyc_nil]; omega)
      have hX1 := HO.out _ _ hX0
      have hX2 : Holds w' (H' ++ (H0 ++ (Hq ++ (Hr ++ ((b, .cells #[.slice (some ⟨g, 0, none⟩) m.may.length c, .int .i64 m.size, .bool m.given] 45) :: Fr))))) := hX1.sub (fun p hp => by simp only [List.mem_append, List.mem_cons, List.not_mem_nil, or_false] at hp ⊢; grind) (fun b => by simp only [keyc_append, keyc_cons, keyc_nil]; omega)
      have hGx := hG.trans hg2
      clear hX0 hX1 hH2 hg2 k0 k2 k4 k3
      go_wp2_with fail
      refine Z_begin (fun wx => wx.cell? ⟨b, 0, none⟩ = some (.slice (some ⟨g, 0, none⟩) m.may.length c) ∧ wx.cell? ⟨g, k, none⟩ = some (.slice A3 (m.at_ (k : Int)).length c3) ∧ wx.frozen? ⟨g, k, none⟩ = false) 17 (by kernel_rfl) (fun w1 hd => HS.out _ (H' ++ (H0 ++ Hq)) (by simpa [List.append_assoc] using (hX2.drewN q).dr hd)) (fun w1 hd hs => ?_)
      have hH1 := (hX2.drewN q).dr hd; have hGG : Grew w w1 := (hGx.drewN q).trans (Grew.dr hd); clear hd hX2 hGx
      refine Z_takeD 0 (some 87) (v := ?_) rfl rfl (by kernel_rfl) (fun _ _ _ h => h) (by rfl) hs ?_ ?_
      rotate_left
      · intro wx hx; obtain ⟨x1, x2, x3⟩ := hx; go_simp; try with_reducible rfl
      simp only [Act.put, List.setIfInBounds_toArray, List.set_cons_succ, List.set_cons_zero]
      refine Z_takeD 1 (some 88) (v := ?_) rfl rfl (by kernel_rfl) (fun _ _ _ h => h) (by rfl) hs ?_ ?_
      rotate_left
      · intro wx hx; obtain ⟨x1, x2, x3⟩ := hx; go_simp; try with_reducible rfl
      simp only [Act.put, List.setIfInBounds_toArray, List.set_cons_succ, List.set_cons_zero]
      refine Z_takeD 2 (some 89) (v := ?_) rfl rfl (by kernel_rfl) (fun _ _ _ h => h) (by rfl) hs ?_ ?_
      rotate_left
      · intro wx hx; obtain ⟨x1, x2, x3⟩ := hx; go_simp; try with_reducible rfl
      simp only [Act.put, List.setIfInBounds_toArray, List.set_cons_succ, List.set_cons_zero]
      refine Z_takeD 3 (some 90) (v := ?_) rfl rfl (by kernel_rfl) (fun _ _ _ h => h) (by rfl) hs ?_ ?_
      rotate_left
      · intro wx hx; obtain ⟨x1, x2, x3⟩ := hx; go_simp; try with_reducible rfl
      simp only [Act.put, List.setIfInBounds_toArray, List.set_cons_succ, List.set_cons_zero]
      refine Z_takeD 4 (some 91) (v := ?_) rfl rfl (by kernel_rfl) (fun _ _ _ h => h) (by rfl) hs ?_ ?_
      rotate_left
      · intro wx hx; obtain ⟨x1, x2, x3⟩ := hx; go_simp; try with_reducible rfl
      simp only [Act.put, List.setIfInBounds_toArray, List.set_cons_succ, List.set_cons_zero]
      refine Z_takeD 5 (some 92) (v := ?_) rfl rfl (by kernel_rfl) (fun _ _ _ h => h) (by rfl) hs ?_ ?_
      rotate_left
      · intro wx hx; obtain ⟨x1, x2, x3⟩ := hx; go_simp; try with_reducible rfl
      simp only [Act.put, List.setIfInBounds_toArray, List.set_cons_succ, List.set_cons_zero]
      refine Z_takeD 6 (some 93) (v := ?_) rfl rfl (by kernel_rfl) (fun _ _ _ h => h) (by rfl) hs ?_ ?_
      rotate_left
      · intro wx hx; obtain ⟨x1, x2, x3⟩ := hx; go_simp; try with_reducible rfl
      simp only [Act.put, List.setIfInBounds_toArray, List.set_cons_succ, List.set_cons_zero]
      refine Z_takeD 7 (some 94) (v := ?_) rfl rfl (by kernel_rfl) (fun _ _ _ h => h) (by rfl) hs ?_ ?_
      rotate_left
      · intro wx hx; obtain ⟨x1, x2, x3⟩ := hx; go_simp; try with_reducible rfl
      simp only [Act.put, List.setIfInBounds_toArray, List.set_cons_succ, List.set_cons_zero]
      refine Z_takeD 8 (some 95) (v := ?_) rfl rfl (by kernel_rfl) (fun _ _ _ h => h) (by rfl) hs ?_ ?_
      rotate_left
      · intro wx hx; obtain ⟨x1, x2, x3⟩ := hx; go_simp; try with_reducible rfl
      simp only [Act.put, List.setIfInBounds_toArray, List.set_cons_succ, List.set_cons_zero]
      refine Z_takeD 9 (some 96) (v := ?_) rfl rfl (by kernel_rfl) (fun _ _ _ h => h) (by rfl) hs ?_ ?_
      rotate_left
      · intro wx hx; obtain ⟨x1, x2, x3⟩ := hx; go_simp; try with_reducible rfl
      simp only [Act.put, List.setIfInBounds_toArray, List.set_cons_succ, List.set_cons_zero]
      refine Z_takeD 10 (some 97) (v := ?_) rfl rfl (by kernel_rfl) (fun _ _ _ h => h) (by rfl) hs ?_ ?_
      rotate_left
      · intro wx hx; obtain ⟨x1, x2, x3⟩ := hx; go_simp; try with_reducible rfl
      simp only [Act.put, List.setIfInBounds_toArray, List.set_cons_succ, List.set_cons_zero]
      refine Z_takeD 11 (some 98) (v := ?_) rfl rfl (by kernel_rfl) (fun _ _ _ h => h) (by rfl) hs ?_ ?_
      rotate_left
      · intro wx hx; obtain ⟨x1, x2, x3⟩ := hx; go_simp; try with_reducible rfl
      simp only [Act.put, List.setIfInBounds_toArray, List.set_cons_succ, List.set_cons_zero]
      refine Z_takeD 13 (some 100) (v := ?_) rfl rfl (by kernel_rfl) (fun _ _ _ h => h) (by rfl) hs ?_ ?_
      rotate_left
      · intro wx hx; obtain ⟨x1, x2, x3⟩ := hx; go_simp; try with_reducible rfl
      simp only [Act.put, List.setIfInBounds_toArray, List.set_cons_succ, List.set_cons_zero]
      refine Z_two 12 14 rfl rfl (by kernel_rfl) (fun K hK => ?_) (fun K hK => ?_)
      have ⟨x1, x2, x3⟩ := hs
      refine step_append_T tBytess (by rfl) _ _ (by rfl) (by rfl) (by rfl) (IsRow.nil _ _) (show Holds w1 (([] : List (Nat × Obj)) ++ (H' ++ (H0 ++ (Hq ++ (Hr ++ ((b, .cells #[.slice (some ⟨g, 0, none⟩) m.may.length c, .int .i64 m.size, .bool m.given] 45) :: Fr)))))) from hH1) (hrow1.reads (Fr := (H' ++ (Hq ++ (Hr ++ ((b, .cells #[.slice (some ⟨g, 0, none⟩) m.may.length c, .int .i64 m.size, .bool m.given] 45) :: Fr))))) (hH1.swap)) hone (by simp [maxLen]; omega) (by omega) ?_; intro A5 c5 w5 H5 hrow5 hH5 hg5; rw [Nat.zero_add] at hrow5; rw [Nat.zero_add]
      clear x1 x2 x3
      refine hK _ _ (HS.out _ (H5 ++ (H' ++ (H0 ++ Hq))) (by simpa [List.append_assoc] using hH5)) (fun hs2 => ?_); clear hK K hs; have hs := hs2; clear hs2
      refine Z_mid 14 rfl (by kernel_rfl) (fun K hK => ?_)
      have ⟨x1, x2, x3⟩ := hs
      go_simp
      clear x1 x2 x3
      refine hK _ _ (HS.out _ (_ :: (H5 ++ (H' ++ (H0 ++ Hq)))) (by simpa [List.append_assoc] using hH5.alloc _)) (fun hs2 => ?_); clear hK K hs; have hs := hs2; clear hs2
      have hZ : Holds (w5.alloc (.cells #[.slice A' bs.length c'] 31)) (H5 ++ ((w5.heap.size, (.cells #[.slice A' bs.length c'] 31)) :: (H' ++ (H0 ++ (Hq ++ (Hr ++ ((b, .cells #[.slice (some ⟨g, 0, none⟩) m.may.length c, .int .i64 m.size, .bool m.given] 45) :: Fr))))))) := Holds.swap (A := [_]) (hH5.alloc _); have hgz := (hGG.trans hg5).alloc (.cells #[.slice A' bs.length c'] 31); generalize w5.alloc (.cells #[.slice A' bs.length c'] 31) = wz at *; generalize w5.heap.size = gz at *; clear hH5 hg5 hGG hH1
      rotate_left
      have ⟨x1, x2, x3⟩ := hs
      go_simp
      clear x1 x2 x3
      refine hK _ _ (HS.out _ (_ :: (H' ++ (H0 ++ Hq))) (by simpa [List.append_assoc] using hH1.alloc _)) (fun hs2 => ?_); clear hK K hs; have hs := hs2; clear hs2
      refine Z_mid 12 rfl (by kernel_rfl) (fun K hK => ?_)
      have ⟨x1, x2, x3⟩ := hs
      refine step_append_T tBytess (by rfl) _ _ (by rfl) (by rfl) (by rfl) (IsRow.nil _ _) (show Holds (w1.alloc (.cells #[.slice A' bs.length c'] 31)) (([] : List (Nat × Obj)) ++ ((w1.heap.size, (.cells #[.slice A' bs.length c'] 31)) :: (H' ++ (H0 ++ (Hq ++ (Hr ++ ((b, .cells #[.slice (some ⟨g, 0, none⟩) m.may.length c, .int .i64 m.size, .bool m.given] 45) :: Fr))))))) from hH1.alloc _) (hrow1.reads (Fr := (_ :: (H' ++ (Hq ++ (Hr ++ ((b, .cells #[.slice (some ⟨g, 0, none⟩) m.may.length c, .int .i64 m.size, .bool m.given] 45) :: Fr)))))) (Holds.swap (A := [_]) (Holds.swap2 (A := [_]) (hH1.alloc _)))) hone (by simp [maxLen]; omega) (by omega) ?_; intro A5 c5 w5 H5 hrow5 hH5 hg5; rw [Nat.zero_add] at hrow5; rw [Nat.zero_add]
      clear x1 x2 x3
      refine hK _ _ (HS.out _ (H5 ++ (_ :: (H' ++ (H0 ++ Hq)))) (by simpa [List.append_assoc] using hH5)) (fun hs2 => ?_); clear hK K hs; have hs := hs2; clear hs2
      have hZ := hH5; have hgz := (hGG.alloc (.cells #[.slice A' bs.length c'] 31)).trans hg5; generalize w1.heap.size = gz at *; generalize w5 = wz at *; clear hH5 hg5 hGG hH1
      rotate_left
      all_goals
        refine Z_mid 15 rfl (by kernel_rfl) (fun K hK => ?_)
        have ⟨x1, x2, x3⟩ := hs
        refine step_append_T tBytess (by rfl) _ _ (by rfl) (by rfl) (by rfl) hrow5 hZ (ReadsAt.of_block (n := 1) (c := 1) (o := 0) (g := gz) (hZ.get (b := gz) (o := .cells #[.slice A' bs.length c'] 31) (by simp)) [.slice A' bs.length c'] rfl (by omega) (by simp [maxLen]) (by intro j u hu; simpa using hu)) (by simp [Value.oneCell']) (by simp [maxLen]; omega) (by omega) ?_; intro A6 c6 w6 H6 hrow6 hH6 hg6   -- call w
        clear x1 x2 x3
        refine hK _ _ (HS.out _ (H6 ++ (_ :: (H' ++ (H0 ++ Hq)))) (by simpa [List.append_assoc] using hH6)) (fun hs2 => ?_); clear hK K hs; have hs := hs2; clear hs2
        refine Z_takeD 16 (some 103) (v := ?_) rfl rfl (by kernel_rfl) (fun _ _ _ h => h) (by rfl) hs ?_ ?_
        rotate_left
        · intro wx hx; obtain ⟨x1, x2, x3⟩ := hx; go_simp; try with_reducible rfl
        simp only [Act.put, List.setIfInBounds_toArray, List.set_cons_succ, List.set_cons_zero]
        refine Z_last 17 rfl (by kernel_rfl) rfl (fun K hK => ?_)
        have ⟨x1, x2, x3⟩ := hs
        go_simp   -- store w
        clear x1 x2 x3
        refine hK _ _ ?_; clear hK K hs
        refine Z_done (by kernel_rfl) ?_ _
        have hown : IsBytes (.slice A' bs.length c') bs H' := by simpa [IsBytes] using hrow
        have hV : IsBys (.slice A6 ((m.at_ (k : Int)).length + 1) c6) (m.at_ (k : Int) ++ [bs]) (H6 ++ (Hq ++ H')) := HADD.out _ _ _ _ _ rfl ⟨_, rfl, hown⟩ (by simpa using hrow6)
        have hP : Holds w6 ((H6 ++ (Hq ++ H')) ++ (Hr ++ ((b, .cells #[.slice (some ⟨g, 0, none⟩) m.may.length c, .int .i64 m.size, .bool m.given] 45) :: Fr))) := hH6.sub (fun p hp => by simp only [List.mem_append, List.mem_cons, List.not_mem_nil, or_false] at hp ⊢; grind) (fun b => by simp only [keyc_append, keyc_cons, keyc_nil]; omega)
        obtain ⟨H8, hr8, hh8⟩ := HPUT.out _ _ 0 (.slice A6 ((m.at_ (k : Int)).length + 1) c6) (m.at_ (k : Int) ++ [bs]) _ (by omega) ⟨_, rfl, hV⟩ hP
        obtain ⟨H7, hm7, hh7⟩ := IsRM.close_ hr8 hh8
        have e : IsRM (.pointer (some ⟨b, 0, none⟩)) (m.put (k : Int) (m.at_ (k : Int) ++ [bs])) H7 := hm7
        rw [Nat.mul_one, Nat.add_zero] at hh7
        have HEE := Lib.hid e; clear e hm7 hr8 hV hown hrow hrow6 hrow5
        go_wp2
        go_ret
        exact ⟨rfl, H7, HEE.out, hh7, (hgz.trans hg6).setCell _ _⟩

set_option maxRecDepth 20000 in
set_option maxHeartbeats 4000000 in
theorem rwrite_none (v : Value) (m : BM) (H Fr : HL) (i : Int) (bv : Value) (bs : List UInt8) (code : Int) (A2 : Option Addr) (q2 : Nat) (w : World) (h : IsRM v m H) (hH : Holds w (H ++ Fr))
    (hfb : FrBytes Fr bv bs) (hbs : bs.length ≤ 1000000) (hsm : (m.at_ i).length ≤ 1000000) :
    Calls Try.prog 21 #[v, .int .i64 i, bv, .agg #[.int .i64 code, .slice A2 0 q2]] w (RetUpd (fun H => IsRM v (m.write i bs code []).2 H) (.bool (m.write i bs code []).1) w Fr) := by
  have hb0 := hfb w hH.right
  obtain ⟨A1, q1, rfl⟩ := hb0.val
  clear hb0
  obtain ⟨b, mv, Hm, rfl, hr, rfl⟩ := h
  obtain ⟨A, c, rfl, hlc, hcm⟩ := hr.val
  have hh0 : IsRM (.pointer (some ⟨b, 0, none⟩)) m ((b, .cells #[.slice A m.may.length c, .int .i64 m.size, .bool m.given] 45) :: Hm) := ⟨b, _, Hm, rfl, hr, rfl⟩
  have HH := Lib.hid hh0; clear hh0
  have HR := Lib.hid hr; clear hr
  have hHA : Holds (w.alloc (.cells #[.int .i64 code, .slice A2 0 q2] 35)) (Hm ++ ((b, .cells #[.slice A m.may.length c, .int .i64 m.size, .bool m.given] 45) :: ((w.heap.size, .cells #[.int .i64 code, .slice A2 0 q2] 35) :: Fr))) := (hH.alloc _).sub (fun p hp => by simp only [List.mem_append, List.mem_cons, List.not_mem_nil, or_false] at hp ⊢; grind) (fun b => by simp only [keyc_append, keyc_cons, keyc_nil]; omega)
  have HE := Lib.hid (hH.alloc' (.cells #[.int .i64 code, .slice A2 0 q2] 35))
  have hG := (Grew.refl w).alloc (.cells #[.int .i64 code, .slice A2 0 q2] 35)
  have e0 := hHA.right.hcell 0
  have e1 := hHA.right.hcell 1
  have e2 := hHA.right.hcell 2
  simp only [List.getElem?_toArray, List.getElem?_cons_zero, List.getElem?_cons_succ] at e0 e1 e2
  have hfbA : ∀ (wx : World) (J : List (Nat × Obj)), Holds wx (J ++ ((b, .cells #[.slice A m.may.length c, .int .i64 m.size, .bool m.given] 45) :: ((w.heap.size, .cells #[.int .i64 code, .slice A2 0 q2] 35) :: Fr))) → BytesAt wx (.slice A1 bs.length q1) bs := fun wx J hx => hfb wx (Holds.right (A := [_, _]) hx.right)
  have HFB := Lib.hid hfbA; clear hfbA
  unfold BM.write
  rw [if_neg (by simp)]
  by_cases hbad : m.there i = false ∨ (bs.length : Int) ≠ m.size
  · rw [if_pos hbad]
    have hcase : (i < 0) ∨ (¬ (i < 0) ∧ (m.may.length : Int) ≤ i) ∨ (¬ (i < 0) ∧ ¬ ((m.may.length : Int) ≤ i) ∧ ((bs.length : Int) != m.size) = true) := by
      by_cases h1 : i < 0
      · exact .inl h1
      · by_cases h2 : (m.may.length : Int) ≤ i
        · exact .inr (.inl ⟨h1, h2⟩)
        · rcases hbad with h | h
          · rcases there_not h with h | h <;> omega
          · exact .inr (.inr ⟨h1, h2, by simpa using h⟩)
    have hcd : code = 2 ∨ ((code == 2) = false ∧ code = 4) ∨ ((code == 2) = false ∧ (code == 4) = false) := by
      by_cases h2 : code = 2
      · exact .inl h2
      · by_cases h4 : code = 4
        · exact .inr (.inl ⟨by simpa using h2, h4⟩)
        · exact .inr (.inr ⟨by simpa using h2, by simpa using h4⟩)
    clear hbad hHA hsm
    rcases hcase with h1 | ⟨h1, h2⟩ | ⟨h1, h2, h3⟩
    all_goals
      rcases hcd with rfl | ⟨n2, rfl⟩ | ⟨n2, n4⟩
      all_goals
        go_enter Try.func21, Try.ntmps21
        go_wp2
        go_ret
        first
          | exact ⟨rfl, _, HH.out, HE.out, hG⟩
          | exact ⟨ret_b (by simp [*]), _, HH.out, HE.out, hG⟩
  · rw [if_neg hbad]
    have ht : m.there i = true := by cases h : m.there i with | true => rfl | false => exact absurd (.inl h) hbad
    have hz : (bs.length : Int) = m.size := by
      by_cases h : (bs.length : Int) = m.size
      · exact h
      · exact absurd (.inr h) hbad
    have hz1 : ((bs.length : Int) != m.size) = false := by simpa using hz
    have HZ := Lib.hid hz
    clear hbad hz
    have hb := BM.there_iff.1 ht
    have h1 : ¬ (i < 0) := by omega
    have h2 : ¬ ((m.may.length : Int) ≤ i) := by omega
    have HTT := Lib.hid ht; clear ht hb
    have HHA := Lib.hid hHA
    have HHB := Lib.hid (show Holds (w.alloc (.cells #[.int .i64 code, .slice A2 0 q2] 35)) (([] : List (Nat × Obj)) ++ (Hm ++ ((b, .cells #[.slice A m.may.length c, .int .i64 m.size, .bool m.given] 45) :: ((w.heap.size, .cells #[.int .i64 code, .slice A2 0 q2] 35) :: Fr)))) from hHA)
    clear hHA
    by_cases h0 : code = 0
    · subst h0
      rw [if_pos rfl]
      cases hg : m.given with
      | true =>
        rw [hg] at e2
        go_enter Try.func21, Try.ntmps21
        go_wp2_with (at_builtin; refine wpList_append_T tBytes (by rfl) (.const (.slice none 0 0)) (.tmp 42) (by rfl) (by rfl) (by rfl) (IsRow.nil _ _) HHB.out (HFB.out _ _ HHA.out) (by intro y hy; obtain ⟨x, _, rfl⟩ := List.mem_map.1 hy; rfl) (by simp [maxLen]; omega) (by omega) ?_; intro A' c' w' H' hrow hH2 hg2; have k0 := hH2.right.right.hcell 0; have k2 := hH2.right.right.hcell 2; have k4 := hH2.right.right.hfrozen 2; have k3 := (Holds.right (A := [_]) hH2.right.right).hcell 0; simp only [List.getElem?_toArray, List.getElem?_cons_zero, List.getElem?_cons_succ, hg] at k0 k2 k3)
        go_ret
        exact ⟨rfl, _, HH.out, (hH2.sub (fun p hp => by simp only [List.mem_append, List.mem_cons, List.not_mem_nil, or_false] at hp ⊢; grind) (fun b => by simp only [keyc_append, keyc_cons, keyc_nil]; omega)), hG.trans hg2⟩
      | false =>
        rw [hg] at e2
        obtain ⟨k, rfl, hk, hgk⟩ := BM.at_get HTT.out
        obtain ⟨g, cap, cc, Hi, Hr, hgv, hcap, hcap2, _, hcl, ⟨sv, rfl, hrow0⟩, hfacts, hopen, _, hput⟩ := HR.out.open2 hgk
        injection hgv with hgv1 _ hgv3
        subst hgv1; subst hgv3
        have HPUT := Lib.hid hput
        have HF := Lib.hid hfacts
        have HO := Lib.hid hopen
        clear hfacts hopen hput hrow0 hcl hgk
        go_enter Try.func21, Try.ntmps21
        go_wp2_with (at_builtin; refine wpList_append_T tBytes (by rfl) (.const (.slice none 0 0)) (.tmp 42) (by rfl) (by rfl) (by rfl) (IsRow.nil _ _) HHB.out (HFB.out _ _ HHA.out) (by intro y hy; obtain ⟨x, _, rfl⟩ := List.mem_map.1 hy; rfl) (by simp [maxLen]; omega) (by omega) ?_; intro A' c' w' H' hrow hH2 hg2; have k0 := hH2.right.right.hcell 0; have k2 := hH2.right.right.hcell 2; have k4 := hH2.right.right.hfrozen 2; have k3 := (Holds.right (A := [_]) hH2.right.right).hcell 0; simp only [List.getElem?_toArray, List.getElem?_cons_zero, List.getElem?_cons_succ, hg] at k0 k2 k3; have k5 := HF.out _ _ ((HO.out _ _ hH2.right).right); obtain ⟨k6, k7⟩ := k5; have k8 := k7 0 (by omega); rw [Nat.mul_one, Nat.add_zero] at k8; obtain ⟨k9, k10⟩ := k8; simp only [List.getElem?_cons_zero] at k9; clear k7)
        have hown : IsBytes (.slice A' (0 + bs.length) c') bs H' := by simpa [IsBytes] using hrow
        have hrow' : IsBys (.slice (some ⟨w'.heap.size, 0, none⟩) 1 1) [bs] ((w'.heap.size, .cells #[.slice A' (0 + bs.length) c'] 31) :: H') := IsBys.one hown
        have hz := HO.out _ _ hH2.swap
        have hz2 : Holds w' (H' ++ (Hr ++ ((b, .cells #[.slice (some ⟨g, 0, none⟩) m.may.length c, .int .i64 m.size, .bool m.given] 45) :: ((w.heap.size, .cells #[.int .i64 0, .slice A2 0 q2] 35) :: Fr)))) := hz.sub (fun p hp => by simp only [List.mem_append, List.mem_cons, List.not_mem_nil, or_false] at hp ⊢; grind) (fun b => by simp only [keyc_append, keyc_cons, keyc_nil]; omega)
        have hal1 := hz2.alloc (.cells #[.slice A' (0 + bs.length) c'] 31)
        obtain ⟨H5, hr5, hh5⟩ := HPUT.out _ _ 0 (.slice (some ⟨w'.heap.size, 0, none⟩) 1 1) [bs] (_ :: H') (by omega) ⟨_, rfl, hrow'⟩ hal1
        obtain ⟨H7, hm7, hh7⟩ := IsRM.close_ hr5 hh5
        have e : IsRM (.pointer (some ⟨b, 0, none⟩)) (m.put (k : Int) [bs]) H7 := hm7
        rw [Nat.mul_one, Nat.add_zero, Nat.zero_add, World.setCell_alloc_past _ _ _ _ k6] at hh7
        have HEE := Lib.hid e; clear e hm7 hr5 hrow' hown hrow
        go_ret
        exact ⟨rfl, H7, HEE.out, Holds.mid (A := H7) (B := [_]) hh7, ((hG.trans hg2).setCell _ _).alloc _⟩
    · have n0 := int_eqb h0
      rw [if_neg h0]
      have hwr : ∀ p q : Bool × BM, True := fun _ _ => trivial
      by_cases h57 : (code = 5 ∨ code = 7) ∧ m.given = true
      · obtain ⟨hc57, hg⟩ := h57
        rw [if_pos hc57, if_pos hg]
        rw [hg] at e2
        clear h0 hwr
        rcases hc57 with rfl | rfl
        all_goals
          go_enter Try.func21, Try.ntmps21
          go_wp2_with (at_builtin; refine wpList_append_T tBytes (by rfl) (.const (.slice none 0 0)) (.tmp 42) (by rfl) (by rfl) (by rfl) (IsRow.nil _ _) HHB.out (HFB.out _ _ HHA.out) (by intro y hy; obtain ⟨x, _, rfl⟩ := List.mem_map.1 hy; rfl) (by simp [maxLen]; omega) (by omega) ?_; intro A' c' w' H' hrow hH2 hg2; have k0 := hH2.right.right.hcell 0; have k2 := hH2.right.right.hcell 2; have k4 := hH2.right.right.hfrozen 2; have k3 := (Holds.right (A := [_]) hH2.right.right).hcell 0; simp only [List.getElem?_toArray, List.getElem?_cons_zero, List.getElem?_cons_succ, hg] at k0 k2 k3)
          go_ret
          exact ⟨rfl, _, HH.out, (hH2.sub (fun p hp => by simp only [List.mem_append, List.mem_cons, List.not_mem_nil, or_false] at hp ⊢; grind) (fun b => by simp only [keyc_append, keyc_cons, keyc_nil]; omega)), hG.trans hg2⟩
      · by_cases h11 : code = 11
        · subst h11
          rw [if_neg (by omega), if_neg (by omega), if_pos rfl]
          clear h0 hwr h57
          go_enter Try.func21, Try.ntmps21
          go_wp2_with (at_builtin; refine wpList_append_T tBytes (by rfl) (.const (.slice none 0 0)) (.tmp 42) (by rfl) (by rfl) (by rfl) (IsRow.nil _ _) HHB.out (HFB.out _ _ HHA.out) (by intro y hy; obtain ⟨x, _, rfl⟩ := List.mem_map.1 hy; rfl) (by simp [maxLen]; omega) (by omega) ?_; intro A' c' w' H' hrow hH2 hg2; have k0 := hH2.right.right.hcell 0; have k2 := hH2.right.right.hcell 2; have k4 := hH2.right.right.hfrozen 2; have k3 := (Holds.right (A := [_]) hH2.right.right).hcell 0; simp only [List.getElem?_toArray, List.getElem?_cons_zero, List.getElem?_cons_succ] at k0 k2 k3)
          go_ret
          have hz : Holds w' ((b, .cells #[.slice A m.may.length c, .int .i64 m.size, .bool m.given] 45) :: (Hm ++ Fr)) := hH2.sub (fun p hp => by simp only [List.mem_append, List.mem_cons, List.not_mem_nil, or_false] at hp ⊢; grind) (fun b => by simp only [keyc_append, keyc_cons, keyc_nil]; omega)
          have hz2 := hz.set 2 (.bool true)
          exact ⟨rfl, _, ⟨b, _, Hm, rfl, HR.out, rfl⟩, hz2, (hG.trans hg2).setCell _ _⟩
        · by_cases h4 : code = 4 ∨ code = 5 ∨ code = 7
          · have hal := rwrite_also (.pointer (some ⟨b, 0, none⟩)) m ((b, .cells #[.slice A m.may.length c, .int .i64 m.size, .bool m.given] 45) :: Hm) Fr i (.slice A1 bs.length q1) bs code A2 q2 w HH.out hH hfb hbs hsm HTT.out HZ.out
            rcases h4 with rfl | rfl | rfl
            · rw [if_neg (by omega), if_pos rfl]
              exact hal (.inl rfl)
            · have hg : m.given = false := by cases h : m.given with | false => rfl | true => exact absurd ⟨.inl rfl, h⟩ h57
              rw [if_pos (.inl rfl), if_neg (by simp [hg])]
              exact hal (.inr (.inl ⟨rfl, hg⟩))
            · have hg : m.given = false := by cases h : m.given with | false => rfl | true => exact absurd ⟨.inr rfl, h⟩ h57
              rw [if_pos (.inr rfl), if_neg (by simp [hg])]
              exact hal (.inr (.inr ⟨rfl, hg⟩))
          · have n4 := int_eqb (fun h => h4 (.inl h))
            have n5 := int_eqb (fun h => h4 (.inr (.inl h)))
            have n7 := int_eqb (fun h => h4 (.inr (.inr h)))
            have n11 := int_eqb h11
            rw [if_neg (fun h => h4 (.inr h)), if_neg (fun h => h4 (.inl h)), if_neg h11]
            clear h0 hwr h57 h11 h4
            go_enter Try.func21, Try.ntmps21
            go_wp2_with (at_builtin; refine wpList_append_T tBytes (by rfl) (.const (.slice none 0 0)) (.tmp 42) (by rfl) (by rfl) (by rfl) (IsRow.nil _ _) HHB.out (HFB.out _ _ HHA.out) (by intro y hy; obtain ⟨x, _, rfl⟩ := List.mem_map.1 hy; rfl) (by simp [maxLen]; omega) (by omega) ?_; intro A' c' w' H' hrow hH2 hg2; have k0 := hH2.right.right.hcell 0; have k2 := hH2.right.right.hcell 2; have k4 := hH2.right.right.hfrozen 2; have k3 := (Holds.right (A := [_]) hH2.right.right).hcell 0; simp only [List.getElem?_toArray, List.getElem?_cons_zero, List.getElem?_cons_succ] at k0 k2 k3)
            go_ret
            exact ⟨rfl, _, HH.out, (hH2.sub (fun p hp => by simp only [List.mem_append, List.mem_cons, List.not_mem_nil, or_false] at hp ⊢; grind) (fun b => by simp only [keyc_append, keyc_cons, keyc_nil]; omega)), hG.trans hg2⟩
end Go.Proofs.Yteaeahhjkagbdaa
