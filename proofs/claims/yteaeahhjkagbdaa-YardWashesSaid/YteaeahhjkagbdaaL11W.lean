/-
  YardWashes: the walk.
-/
import Derived.Test.YteaeahhjkagbdaaL11P
namespace Go.Proofs.Yteaeahhjkagbdaa
open Go.RowKit
set_option linter.unusedSimpArgs false
set_option linter.unusedVariables false

section
variable {P : Program} {ops : Array Oper} {Q : Exit → Act → World → Prop} {md : Region.Mode} {S : World → Prop} {z : Nat}
/-- a guarded operation that does not run -/
theorem Z_skipD (i : Nat) (d : Option Nat) {oi : Oper} {fuel : Nat} {listed : Array Bool} {a : Act} {w : World} (hi : ops[i]? = some oi) (hdst : oi.dst = d) (hB : takeB md ops z listed i = true)
    (hQ : ∀ c a w, Q (.panic c) (a.put d undef) w → Q (.panic c) a w) (hw : Region.wanted oi (yielded ops a.tmps) = false) (hS : S w)
    (h : wpAnyZ P md ops Q S z fuel (listed.setIfInBounds i true) (a.put d undef) w) : wpAnyZ P md ops Q S z (fuel + 1) listed a w := by
  subst hdst
  exact Z_skip i hi hB hQ hw hS h
end
/-- a bit of a number -/
def bitI (x : Int) (k : Nat) : Bool := bits BinOp.and IntKind.i64 (x / 2 ^ k) 1 == 1
theorem filt_le (p : Nat → Bool) (k : Nat) : ((List.range k).filter p).length ≤ k := by
  have := List.length_filter_le p (List.range k)
  simpa using this
theorem bit_zero (x : Int) (k : Nat) : (bits BinOp.and IntKind.i64 (x / 2 ^ k) 1 == 0) = !bitI x k := by
  unfold bitI
  have h : bits BinOp.and IntKind.i64 (x / 2 ^ k) 1 = 0 ∨ bits BinOp.and IntKind.i64 (x / 2 ^ k) 1 = 1 := by
    generalize x / 2 ^ k = z
    unfold bits
    simp
    rw [show (1 % 2 ^ IntKind.i64.bits : Nat) = 1 by decide, Nat.and_one_is_mod]
    rcases Nat.mod_two_eq_zero_or_one (z % 2 ^ IntKind.i64.bits).toNat with h | h <;> rw [h] <;> decide
  rcases h with h | h <;> rw [h] <;> rfl
/-- the yard, and nothing else -/
def WashN (b P : Nat) (D : Nat → Bool) (w : World) (Fr : HL) (iv : Value) (wr : World) : Prop :=
  ∃ (k : Nat) (H : HL), k ≤ P ∧ iv = .int .i64 k ∧ IsYard (.pointer (some ⟨b, 0, none⟩)) (yW P 2 (k : Int) (pgN D k)) H ∧ Holds wr (H ++ Fr) ∧ Grew w wr
def WashI (n : Nat) (F : HL) (w : World) (iv : Value) (wr : World) : Prop := ∃ (k : Nat), k ≤ n ∧ iv = .int .i64 k ∧ Holds wr F ∧ Grew w wr
def WashL (b P : Nat) (D W R : Nat → Bool) (w : World) (Fr : HL) (mv lv iv : Value) (wr : World) : Prop :=
  ∃ (k : Nat) (H F2 : HL), k ≤ P ∧ iv = .int .i64 k ∧ mv = .int .i64 (manyTo D W R k : Int) ∧ lv = .int .i64 (leftTo R k : Int) ∧ IsYard (.pointer (some ⟨b, 0, none⟩)) (yW P 2 (P : Int) (pgL D W R k)) H ∧ Holds wr (H ++ (F2 ++ Fr)) ∧ Grew w wr

set_option maxRecDepth 100000 in
set_option maxHeartbeats 4000000 in
theorem washes_walk (pg dirty wash drop : Int) (w : World) :
    Calls Try.prog 11 #[.int .i64 pg, .int .i64 dirty, .int .i64 wash, .int .i64 drop] w (RetFr (.bool true) w (allOf w)) := by
  have hH := holds_all w
  generalize allOf w = Fr at *
  have k1 := err_eq
  have k2 := nil_eq
  have k3 := err_ne
  have k4 := nil_ne
  have hbb := low_bd pg 8 (by omega) (by omega)
  go_enter Try.func11, Try.ntmps11
  go_wp2_with fail
  refine (low_any pg 8 _ (by omega) (by omega)).mono ?_
  rintro e w1 ⟨rfl, rfl⟩
  obtain ⟨bn, hbn⟩ := Int.eq_ofNat_of_zero_le hbb.1
  rw [hbn] at hbb ⊢
  clear hbn
  obtain ⟨P, hP⟩ : ∃ P, P = bn + 1 := ⟨_, rfl⟩
  have hPe := Lib.hid (show (1 : Int) + (bn : Int) = (P : Int) by omega)
  have hP1 : 1 ≤ P := by omega
  have hP8 : P ≤ 8 := by omega
  have hPw : wrap64 (P : Int) = (P : Int) := by unfold wrap64; omega
  go_wp2_with fail
  first | rw [hPe.out] | rw [show (bn : Int) + 1 = (P : Int) by omega]
  clear hPe hP hbb
  refine (ynew_good 3 P Fr w hH (by omega) (by omega) hP1 hP8).mono ?_
  rintro e w1 ⟨dv, H0, rfl, hd, hH1, hg1⟩
  obtain ⟨b, rfl⟩ := hd.ptr
  have HD := Lib.hid hd; clear hd
  go_wp2_with fail
  refine (yopen_any 2 HD.out hH1).mono ?_
  rw [yW_open]
  rintro e w2 ⟨ve, H1, He, rfl, he, hd, hH2, hg2⟩
  obtain ⟨rfl, rfl⟩ := isErr0 he
  rw [List.nil_append] at hH2
  have HD1 := Lib.hid hd; clear hd he hH1
  have hG2 := hg1.trans hg2
  clear hg1 hg2
  go_wp2_with fail
  go_loopw [10, 11, 12] (fun iv _ _ wr => WashN b P (bitI dirty) w Fr iv wr) (fun iv _ _ _ => P - (intOf iv).toNat)
  case atStart => exact ⟨0, H1, by omega, rfl, by rw [pgN_zero]; exact HD1.out, hH2, hG2⟩
  case round =>
    obtain ⟨k, H, hk, rfl, hd, hHr, hgr⟩ := hrel
    have HD2 := Lib.hid hd; clear hd hH2 hG2
    by_cases hlt : k < P
    · go_wp2_with fail
      refine (ynext_any 2 HD2.out hHr).mono ?_
      rw [yW_next hlt]
      rintro e w3 ⟨ve, H2, He, rfl, he, hd, hH3, hg3⟩
      obtain ⟨rfl, rfl⟩ := isErr0 he
      rw [List.nil_append] at hH3
      have HD3 := Lib.hid hd; clear hd he
      go_wp2_with fail
      have hnd := yneed_any 2 (k : Int) (bitI dirty k) HD3.out hH3
      rw [yW_need _ hlt (by omega) (pgN_at _ _), pgN_succ] at hnd
      refine hnd.mono ?_
      rintro e w4 ⟨ve, H3, He, rfl, he, hd, hH4, hg4⟩
      obtain ⟨rfl, rfl⟩ := isErr0 he
      rw [List.nil_append] at hH4
      have hfin : WashN b P (bitI dirty) w Fr (.int .i64 ((k : Int) + 1)) w4 := ⟨k + 1, H3, by omega, by go_num, hd, hH4, (hgr.trans hg3).trans hg4⟩
      have HFIN := Lib.hid hfin
      clear hd he hnd hfin hH3 hH4 hg3 hg4 hHr hgr
      go_wp2_with fail
      exact ⟨HFIN.out, by simp [intOf]; omega⟩
    · have hkP : k = P := by omega
      subst hkP
      rw [pgN_all (bitI dirty) (bitI wash) (bitI drop)] at HD2
      go_wp2_with fail
      go_loopw [13, 14, 15] (fun mv lv iv wr => WashL b k (bitI dirty) (bitI wash) (bitI drop) w Fr mv lv iv wr) (fun _ _ iv _ => k - (intOf iv).toNat)
      case atStart => exact ⟨0, H, [], by omega, rfl, rfl, rfl, HD2.out, hHr, hgr⟩
      case round =>
        obtain ⟨j, H2, F2, hj, rfl, rfl, rfl, hd, hHs, hgs⟩ := hrel
        have HD3 := Lib.hid hd; clear hd hHr hgr
        by_cases hlt : j < k
        · have hd0 := HD3.out
          obtain ⟨mm, hmm⟩ : ∃ mm, mm = manyTo (bitI dirty) (bitI wash) (bitI drop) j := ⟨_, rfl⟩
          obtain ⟨ll, hll⟩ : ∃ ll, ll = leftTo (bitI drop) j := ⟨_, rfl⟩
          have hml : mm ≤ j := by rw [hmm]; exact filt_le _ _
          have hlj : ll ≤ j := by rw [hll]; exact filt_le _ _
          rw [← hmm, ← hll]
          have HMM := Lib.hid hmm
          have HLL := Lib.hid hll
          clear hmm hll
          have hr0 := bit_zero drop j
          have hw0 := bit_zero wash j
          have HDRP := Lib.hid (fun (wx : World) (hx : Holds wx (H2 ++ (F2 ++ Fr))) => ydrop_any 2 (j : Int) HD3.out hx)
          have HWA := Lib.hid (fun (wx : World) (hx : Holds wx (H2 ++ (F2 ++ Fr))) => ywash_any 2 (j : Int) HD3.out hx)
          rw [yW_wash hlt (by rw [pgL_at])] at HWA
          rw [yW_drop hlt (by rw [pgL_at])] at HDRP
          clear hd0
          cases hr : bitI drop j
          · rw [hr] at hr0
            have hr1 := hr
            unfold bitI at hr1
            cases hw : bitI wash j
            · rw [hw] at hw0
              have hw1 := hw
              unfold bitI at hw1
              have HFY := Lib.hid HD3.out
              rw [pgL_stay _ _ _ _ hr hw] at HFY
              go_upto_region 15 with fail
              refine Z_begin (fun _ => True ∧ True) 30 (by kernel_rfl) (fun w1 hd => ⟨trivial, trivial⟩) (fun w1 hd hs => ?_)
              have hH5 := hHs.dr hd; have hG5 := hgs.trans (Grew.dr hd); clear hd hHs hgs
              refine Z_takeD 0 (some 63) (v := ?_) rfl rfl (by kernel_rfl) (fun _ _ _ h => h) (by rfl) hs ?_ ?_
              rotate_left
              · intro wx hx; obtain ⟨x0, x1⟩ := hx; go_simp; try with_reducible rfl
              simp only [Act.put, List.setIfInBounds_toArray, List.set_cons_succ, List.set_cons_zero]
              refine Z_takeD 1 (some 64) (v := ?_) rfl rfl (by kernel_rfl) (fun _ _ _ h => h) (by rfl) hs ?_ ?_
              rotate_left
              · intro wx hx; obtain ⟨x0, x1⟩ := hx; go_simp; try with_reducible rfl
              simp only [Act.put, List.setIfInBounds_toArray, List.set_cons_succ, List.set_cons_zero]
              refine Z_takeD 2 (some 65) (v := ?_) rfl rfl (by kernel_rfl) (fun _ _ _ h => h) (by rfl) hs ?_ ?_
              rotate_left
              · intro wx hx; obtain ⟨x0, x1⟩ := hx; go_simp; try with_reducible rfl
              simp only [Act.put, List.setIfInBounds_toArray, List.set_cons_succ, List.set_cons_zero]
              refine Z_takeD 3 (some 66) (v := ?_) rfl rfl (by kernel_rfl) (fun _ _ _ h => h) (by rfl) hs ?_ ?_
              rotate_left
              · intro wx hx; obtain ⟨x0, x1⟩ := hx; go_simp; try with_reducible rfl
              simp only [Act.put, List.setIfInBounds_toArray, List.set_cons_succ, List.set_cons_zero]
              refine Z_takeD 4 (some 67) (v := ?_) rfl rfl (by kernel_rfl) (fun _ _ _ h => h) (by rfl) hs ?_ ?_
              rotate_left
              · intro wx hx; obtain ⟨x0, x1⟩ := hx; go_simp; try with_reducible rfl
              simp only [Act.put, List.setIfInBounds_toArray, List.set_cons_succ, List.set_cons_zero]
              refine Z_takeD 5 (some 68) (v := ?_) rfl rfl (by kernel_rfl) (fun _ _ _ h => h) (by rfl) hs ?_ ?_
              rotate_left
              · intro wx hx; obtain ⟨x0, x1⟩ := hx; go_simp; try with_reducible rfl
              simp only [Act.put, List.setIfInBounds_toArray, List.set_cons_succ, List.set_cons_zero]
              refine Z_skipD 6 (some 69) rfl rfl (by kernel_rfl) (fun _ _ _ h => h) (by rfl) hs ?_
              simp only [Act.put, List.setIfInBounds_toArray, List.set_cons_succ, List.set_cons_zero]
              refine Z_skipD 7 (some 70) rfl rfl (by kernel_rfl) (fun _ _ _ h => h) (by rfl) hs ?_
              simp only [Act.put, List.setIfInBounds_toArray, List.set_cons_succ, List.set_cons_zero]
              refine Z_skipD 8 (some 71) rfl rfl (by kernel_rfl) (fun _ _ _ h => h) (by rfl) hs ?_
              simp only [Act.put, List.setIfInBounds_toArray, List.set_cons_succ, List.set_cons_zero]
              refine Z_skipD 9 (some 72) rfl rfl (by kernel_rfl) (fun _ _ _ h => h) (by rfl) hs ?_
              simp only [Act.put, List.setIfInBounds_toArray, List.set_cons_succ, List.set_cons_zero]
              refine Z_takeD 10 (some 73) (v := ?_) rfl rfl (by kernel_rfl) (fun _ _ _ h => h) (by rfl) hs ?_ ?_
              rotate_left
              · intro wx hx; obtain ⟨x0, x1⟩ := hx; go_simp; try with_reducible rfl
              simp only [Act.put, List.setIfInBounds_toArray, List.set_cons_succ, List.set_cons_zero]
              refine Z_takeD 11 (some 74) (v := ?_) rfl rfl (by kernel_rfl) (fun _ _ _ h => h) (by rfl) hs ?_ ?_
              rotate_left
              · intro wx hx; obtain ⟨x0, x1⟩ := hx; go_simp; try with_reducible rfl
              simp only [Act.put, List.setIfInBounds_toArray, List.set_cons_succ, List.set_cons_zero]
              refine Z_takeD 12 (some 75) (v := ?_) rfl rfl (by kernel_rfl) (fun _ _ _ h => h) (by rfl) hs ?_ ?_
              rotate_left
              · intro wx hx; obtain ⟨x0, x1⟩ := hx; go_simp; try with_reducible rfl
              simp only [Act.put, List.setIfInBounds_toArray, List.set_cons_succ, List.set_cons_zero]
              refine Z_takeD 13 (some 76) (v := ?_) rfl rfl (by kernel_rfl) (fun _ _ _ h => h) (by rfl) hs ?_ ?_
              rotate_left
              · intro wx hx; obtain ⟨x0, x1⟩ := hx; go_simp; try with_reducible rfl
              simp only [Act.put, List.setIfInBounds_toArray, List.set_cons_succ, List.set_cons_zero]
              refine Z_takeD 14 (some 77) (v := ?_) rfl rfl (by kernel_rfl) (fun _ _ _ h => h) (by rfl) hs ?_ ?_
              rotate_left
              · intro wx hx; obtain ⟨x0, x1⟩ := hx; go_simp; try with_reducible rfl
              simp only [Act.put, List.setIfInBounds_toArray, List.set_cons_succ, List.set_cons_zero]
              refine Z_takeD 15 (some 78) (v := ?_) rfl rfl (by kernel_rfl) (fun _ _ _ h => h) (by rfl) hs ?_ ?_
              rotate_left
              · intro wx hx; obtain ⟨x0, x1⟩ := hx; go_simp; try with_reducible rfl
              simp only [Act.put, List.setIfInBounds_toArray, List.set_cons_succ, List.set_cons_zero]
              refine Z_takeD 16 (some 79) (v := ?_) rfl rfl (by kernel_rfl) (fun _ _ _ h => h) (by rfl) hs ?_ ?_
              rotate_left
              · intro wx hx; obtain ⟨x0, x1⟩ := hx; go_simp; try with_reducible rfl
              simp only [Act.put, List.setIfInBounds_toArray, List.set_cons_succ, List.set_cons_zero]
              refine Z_takeD 17 (some 80) (v := ?_) rfl rfl (by kernel_rfl) (fun _ _ _ h => h) (by rfl) hs ?_ ?_
              rotate_left
              · intro wx hx; obtain ⟨x0, x1⟩ := hx; go_simp; try with_reducible rfl
              simp only [Act.put, List.setIfInBounds_toArray, List.set_cons_succ, List.set_cons_zero]
              refine Z_skipD 18 (some 81) rfl rfl (by kernel_rfl) (fun _ _ _ h => h) (by rfl) hs ?_
              simp only [Act.put, List.setIfInBounds_toArray, List.set_cons_succ, List.set_cons_zero]
              refine Z_skipD 19 (some 82) rfl rfl (by kernel_rfl) (fun _ _ _ h => h) (by rfl) hs ?_
              simp only [Act.put, List.setIfInBounds_toArray, List.set_cons_succ, List.set_cons_zero]
              refine Z_skipD 22 (some 85) rfl rfl (by kernel_rfl) (fun _ _ _ h => h) (by rfl) hs ?_
              simp only [Act.put, List.setIfInBounds_toArray, List.set_cons_succ, List.set_cons_zero]
              refine Z_skipD 23 (some 86) rfl rfl (by kernel_rfl) (fun _ _ _ h => h) (by rfl) hs ?_
              simp only [Act.put, List.setIfInBounds_toArray, List.set_cons_succ, List.set_cons_zero]
              refine Z_skipD 24 (some 87) rfl rfl (by kernel_rfl) (fun _ _ _ h => h) (by rfl) hs ?_
              simp only [Act.put, List.setIfInBounds_toArray, List.set_cons_succ, List.set_cons_zero]
              refine Z_skipD 25 (some 88) rfl rfl (by kernel_rfl) (fun _ _ _ h => h) (by rfl) hs ?_
              simp only [Act.put, List.setIfInBounds_toArray, List.set_cons_succ, List.set_cons_zero]
              refine Z_skipD 26 (some 89) rfl rfl (by kernel_rfl) (fun _ _ _ h => h) (by rfl) hs ?_
              simp only [Act.put, List.setIfInBounds_toArray, List.set_cons_succ, List.set_cons_zero]
              refine Z_skipD 20 (some 83) rfl rfl (by kernel_rfl) (fun _ _ _ h => h) (by rfl) hs ?_
              simp only [Act.put, List.setIfInBounds_toArray, List.set_cons_succ, List.set_cons_zero]
              refine Z_skipD 21 (some 84) rfl rfl (by kernel_rfl) (fun _ _ _ h => h) (by rfl) hs ?_
              simp only [Act.put, List.setIfInBounds_toArray, List.set_cons_succ, List.set_cons_zero]
              refine Z_skipD 27 (some 90) rfl rfl (by kernel_rfl) (fun _ _ _ h => h) (by rfl) hs ?_
              simp only [Act.put, List.setIfInBounds_toArray, List.set_cons_succ, List.set_cons_zero]
              refine Z_takeD 28 (some 91) (v := ?_) rfl rfl (by kernel_rfl) (fun _ _ _ h => h) (by rfl) hs ?_ ?_
              rotate_left
              · intro wx hx; obtain ⟨x0, x1⟩ := hx; go_simp; try with_reducible rfl
              simp only [Act.put, List.setIfInBounds_toArray, List.set_cons_succ, List.set_cons_zero]
              refine Z_takeD 29 (some 92) (v := ?_) rfl rfl (by kernel_rfl) (fun _ _ _ h => h) (by rfl) hs ?_ ?_
              rotate_left
              · intro wx hx; obtain ⟨x0, x1⟩ := hx; go_simp; try with_reducible rfl
              simp only [Act.put, List.setIfInBounds_toArray, List.set_cons_succ, List.set_cons_zero]
              refine Z_done (by kernel_rfl) ?_ _
              cases hdd : bitI dirty j
              · have hd1 := hdd
                unfold bitI at hd1
                have em : manyTo (bitI dirty) (bitI wash) (bitI drop) (j + 1) = mm := by rw [manyTo_succ, hr, hw, hdd, ← HMM.out]; rfl
                have el : leftTo (bitI drop) (j + 1) = ll + 1 := by rw [leftTo_succ, hr, ← HLL.out]; rfl
                have hfin : WashL b k (bitI dirty) (bitI wash) (bitI drop) w Fr (.int .i64 (mm : Int)) (.int .i64 ((ll : Int) + 1)) (.int .i64 ((j : Int) + 1)) w1 := ⟨j + 1, H2, F2, by omega, by go_num, by rw [em]; try go_num, by rw [el]; try go_num, HFY.out, hH5, hG5⟩
                have HFIN := Lib.hid hfin
                clear hfin em el HMM HLL hr hw hdd hH5 hG5
                go_wp2_with fail
                exact ⟨HFIN.out, by simp [intOf]; omega⟩
              · have hd1 := hdd
                unfold bitI at hd1
                have em : manyTo (bitI dirty) (bitI wash) (bitI drop) (j + 1) = mm + 1 := by rw [manyTo_succ, hr, hw, hdd, ← HMM.out]; rfl
                have el : leftTo (bitI drop) (j + 1) = ll + 1 := by rw [leftTo_succ, hr, ← HLL.out]; rfl
                have hfin : WashL b k (bitI dirty) (bitI wash) (bitI drop) w Fr (.int .i64 ((mm : Int) + 1)) (.int .i64 ((ll : Int) + 1)) (.int .i64 ((j : Int) + 1)) w1 := ⟨j + 1, H2, F2, by omega, by go_num, by rw [em]; try go_num, by rw [el]; try go_num, HFY.out, hH5, hG5⟩
                have HFIN := Lib.hid hfin
                clear hfin em el HMM HLL hr hw hdd hH5 hG5
                go_wp2_with fail
                exact ⟨HFIN.out, by simp [intOf]; omega⟩
            · rw [hw] at hw0
              have hw1 := hw
              unfold bitI at hw1
              rw [pgL_wash _ _ _ _ hr hw] at HWA
              go_upto_region 15 with fail
              refine Z_begin (fun _ => True ∧ True) 30 (by kernel_rfl) (fun w1 hd => ⟨trivial, trivial⟩) (fun w1 hd hs => ?_)
              have hH5 := hHs.dr hd; have hG5 := hgs.trans (Grew.dr hd); clear hd hHs hgs
              refine Z_takeD 0 (some 63) (v := ?_) rfl rfl (by kernel_rfl) (fun _ _ _ h => h) (by rfl) hs ?_ ?_
              rotate_left
              · intro wx hx; obtain ⟨x0, x1⟩ := hx; go_simp; try with_reducible rfl
              simp only [Act.put, List.setIfInBounds_toArray, List.set_cons_succ, List.set_cons_zero]
              refine Z_takeD 1 (some 64) (v := ?_) rfl rfl (by kernel_rfl) (fun _ _ _ h => h) (by rfl) hs ?_ ?_
              rotate_left
              · intro wx hx; obtain ⟨x0, x1⟩ := hx; go_simp; try with_reducible rfl
              simp only [Act.put, List.setIfInBounds_toArray, List.set_cons_succ, List.set_cons_zero]
              refine Z_takeD 2 (some 65) (v := ?_) rfl rfl (by kernel_rfl) (fun _ _ _ h => h) (by rfl) hs ?_ ?_
              rotate_left
              · intro wx hx; obtain ⟨x0, x1⟩ := hx; go_simp; try with_reducible rfl
              simp only [Act.put, List.setIfInBounds_toArray, List.set_cons_succ, List.set_cons_zero]
              refine Z_takeD 3 (some 66) (v := ?_) rfl rfl (by kernel_rfl) (fun _ _ _ h => h) (by rfl) hs ?_ ?_
              rotate_left
              · intro wx hx; obtain ⟨x0, x1⟩ := hx; go_simp; try with_reducible rfl
              simp only [Act.put, List.setIfInBounds_toArray, List.set_cons_succ, List.set_cons_zero]
              refine Z_takeD 4 (some 67) (v := ?_) rfl rfl (by kernel_rfl) (fun _ _ _ h => h) (by rfl) hs ?_ ?_
              rotate_left
              · intro wx hx; obtain ⟨x0, x1⟩ := hx; go_simp; try with_reducible rfl
              simp only [Act.put, List.setIfInBounds_toArray, List.set_cons_succ, List.set_cons_zero]
              refine Z_takeD 5 (some 68) (v := ?_) rfl rfl (by kernel_rfl) (fun _ _ _ h => h) (by rfl) hs ?_ ?_
              rotate_left
              · intro wx hx; obtain ⟨x0, x1⟩ := hx; go_simp; try with_reducible rfl
              simp only [Act.put, List.setIfInBounds_toArray, List.set_cons_succ, List.set_cons_zero]
              refine Z_skipD 6 (some 69) rfl rfl (by kernel_rfl) (fun _ _ _ h => h) (by rfl) hs ?_
              simp only [Act.put, List.setIfInBounds_toArray, List.set_cons_succ, List.set_cons_zero]
              refine Z_skipD 7 (some 70) rfl rfl (by kernel_rfl) (fun _ _ _ h => h) (by rfl) hs ?_
              simp only [Act.put, List.setIfInBounds_toArray, List.set_cons_succ, List.set_cons_zero]
              refine Z_skipD 8 (some 71) rfl rfl (by kernel_rfl) (fun _ _ _ h => h) (by rfl) hs ?_
              simp only [Act.put, List.setIfInBounds_toArray, List.set_cons_succ, List.set_cons_zero]
              refine Z_skipD 9 (some 72) rfl rfl (by kernel_rfl) (fun _ _ _ h => h) (by rfl) hs ?_
              simp only [Act.put, List.setIfInBounds_toArray, List.set_cons_succ, List.set_cons_zero]
              refine Z_takeD 10 (some 73) (v := ?_) rfl rfl (by kernel_rfl) (fun _ _ _ h => h) (by rfl) hs ?_ ?_
              rotate_left
              · intro wx hx; obtain ⟨x0, x1⟩ := hx; go_simp; try with_reducible rfl
              simp only [Act.put, List.setIfInBounds_toArray, List.set_cons_succ, List.set_cons_zero]
              refine Z_takeD 11 (some 74) (v := ?_) rfl rfl (by kernel_rfl) (fun _ _ _ h => h) (by rfl) hs ?_ ?_
              rotate_left
              · intro wx hx; obtain ⟨x0, x1⟩ := hx; go_simp; try with_reducible rfl
              simp only [Act.put, List.setIfInBounds_toArray, List.set_cons_succ, List.set_cons_zero]
              refine Z_takeD 12 (some 75) (v := ?_) rfl rfl (by kernel_rfl) (fun _ _ _ h => h) (by rfl) hs ?_ ?_
              rotate_left
              · intro wx hx; obtain ⟨x0, x1⟩ := hx; go_simp; try with_reducible rfl
              simp only [Act.put, List.setIfInBounds_toArray, List.set_cons_succ, List.set_cons_zero]
              refine Z_takeD 13 (some 76) (v := ?_) rfl rfl (by kernel_rfl) (fun _ _ _ h => h) (by rfl) hs ?_ ?_
              rotate_left
              · intro wx hx; obtain ⟨x0, x1⟩ := hx; go_simp; try with_reducible rfl
              simp only [Act.put, List.setIfInBounds_toArray, List.set_cons_succ, List.set_cons_zero]
              refine Z_takeD 14 (some 77) (v := ?_) rfl rfl (by kernel_rfl) (fun _ _ _ h => h) (by rfl) hs ?_ ?_
              rotate_left
              · intro wx hx; obtain ⟨x0, x1⟩ := hx; go_simp; try with_reducible rfl
              simp only [Act.put, List.setIfInBounds_toArray, List.set_cons_succ, List.set_cons_zero]
              refine Z_takeD 15 (some 78) (v := ?_) rfl rfl (by kernel_rfl) (fun _ _ _ h => h) (by rfl) hs ?_ ?_
              rotate_left
              · intro wx hx; obtain ⟨x0, x1⟩ := hx; go_simp; try with_reducible rfl
              simp only [Act.put, List.setIfInBounds_toArray, List.set_cons_succ, List.set_cons_zero]
              refine Z_takeD 16 (some 79) (v := ?_) rfl rfl (by kernel_rfl) (fun _ _ _ h => h) (by rfl) hs ?_ ?_
              rotate_left
              · intro wx hx; obtain ⟨x0, x1⟩ := hx; go_simp; try with_reducible rfl
              simp only [Act.put, List.setIfInBounds_toArray, List.set_cons_succ, List.set_cons_zero]
              refine Z_takeD 17 (some 80) (v := ?_) rfl rfl (by kernel_rfl) (fun _ _ _ h => h) (by rfl) hs ?_ ?_
              rotate_left
              · intro wx hx; obtain ⟨x0, x1⟩ := hx; go_simp; try with_reducible rfl
              simp only [Act.put, List.setIfInBounds_toArray, List.set_cons_succ, List.set_cons_zero]
              refine Z_takeD 18 (some 81) (v := ?_) rfl rfl (by kernel_rfl) (fun _ _ _ h => h) (by rfl) hs ?_ ?_
              rotate_left
              · intro wx hx; obtain ⟨x0, x1⟩ := hx; go_simp; try with_reducible rfl
              simp only [Act.put, List.setIfInBounds_toArray, List.set_cons_succ, List.set_cons_zero]
              refine Z_takeD 19 (some 82) (v := ?_) rfl rfl (by kernel_rfl) (fun _ _ _ h => h) (by rfl) hs ?_ ?_
              rotate_left
              · intro wx hx; obtain ⟨x0, x1⟩ := hx; go_simp; try with_reducible rfl
              simp only [Act.put, List.setIfInBounds_toArray, List.set_cons_succ, List.set_cons_zero]
              refine Z_takeD 22 (some 85) (v := ?_) rfl rfl (by kernel_rfl) (fun _ _ _ h => h) (by rfl) hs ?_ ?_
              rotate_left
              · intro wx hx; obtain ⟨x0, x1⟩ := hx; go_simp; try with_reducible rfl
              simp only [Act.put, List.setIfInBounds_toArray, List.set_cons_succ, List.set_cons_zero]
              refine Z_takeD 23 (some 86) (v := ?_) rfl rfl (by kernel_rfl) (fun _ _ _ h => h) (by rfl) hs ?_ ?_
              rotate_left
              · intro wx hx; obtain ⟨x0, x1⟩ := hx; go_simp; try with_reducible rfl
              simp only [Act.put, List.setIfInBounds_toArray, List.set_cons_succ, List.set_cons_zero]
              refine Z_takeD 24 (some 87) (v := ?_) rfl rfl (by kernel_rfl) (fun _ _ _ h => h) (by rfl) hs ?_ ?_
              rotate_left
              · intro wx hx; obtain ⟨x0, x1⟩ := hx; go_simp; try with_reducible rfl
              simp only [Act.put, List.setIfInBounds_toArray, List.set_cons_succ, List.set_cons_zero]
              refine Z_takeD 25 (some 88) (v := ?_) rfl rfl (by kernel_rfl) (fun _ _ _ h => h) (by rfl) hs ?_ ?_
              rotate_left
              · intro wx hx; obtain ⟨x0, x1⟩ := hx; go_simp; try with_reducible rfl
              simp only [Act.put, List.setIfInBounds_toArray, List.set_cons_succ, List.set_cons_zero]
              refine Z_takeD 26 (some 89) (v := ?_) rfl rfl (by kernel_rfl) (fun _ _ _ h => h) (by rfl) hs ?_ ?_
              rotate_left
              · intro wx hx; obtain ⟨x0, x1⟩ := hx; go_simp; try with_reducible rfl
              simp only [Act.put, List.setIfInBounds_toArray, List.set_cons_succ, List.set_cons_zero]
              refine Z_mid 20 rfl (by kernel_rfl) (fun K hK => ?_)
              have ⟨x0, x1⟩ := hs
              go_simp; refine (HWA.out _ hH5).mono ?_; rintro e w5 ⟨ve, H3, He, rfl, he, hd4, hH6, hg6⟩; obtain ⟨rfl, rfl⟩ := isErr0 he; rw [List.nil_append] at hH6; have HFY := Lib.hid hd4; have hG6 := hG5.trans hg6; clear hd4 hg6 he hG5 hH5   -- call w
              clear x0 x1
              refine hK _ _ (⟨trivial, trivial⟩) (fun hs2 => ?_); clear hK K hs; have hs := hs2; clear hs2
              refine Z_takeD 21 (some 84) (v := ?_) rfl rfl (by kernel_rfl) (fun _ _ _ h => h) (by rfl) hs ?_ ?_
              rotate_left
              · intro wx hx; obtain ⟨x0, x1⟩ := hx; go_simp; try with_reducible rfl
              simp only [Act.put, List.setIfInBounds_toArray, List.set_cons_succ, List.set_cons_zero]
              refine Z_takeD 27 (some 90) (v := ?_) rfl rfl (by kernel_rfl) (fun _ _ _ h => h) (by rfl) hs ?_ ?_
              rotate_left
              · intro wx hx; obtain ⟨x0, x1⟩ := hx; go_simp; try with_reducible rfl
              simp only [Act.put, List.setIfInBounds_toArray, List.set_cons_succ, List.set_cons_zero]
              refine Z_takeD 28 (some 91) (v := ?_) rfl rfl (by kernel_rfl) (fun _ _ _ h => h) (by rfl) hs ?_ ?_
              rotate_left
              · intro wx hx; obtain ⟨x0, x1⟩ := hx; go_simp; try with_reducible rfl
              simp only [Act.put, List.setIfInBounds_toArray, List.set_cons_succ, List.set_cons_zero]
              refine Z_takeD 29 (some 92) (v := ?_) rfl rfl (by kernel_rfl) (fun _ _ _ h => h) (by rfl) hs ?_ ?_
              rotate_left
              · intro wx hx; obtain ⟨x0, x1⟩ := hx; go_simp; try with_reducible rfl
              simp only [Act.put, List.setIfInBounds_toArray, List.set_cons_succ, List.set_cons_zero]
              refine Z_done (by kernel_rfl) ?_ _
              cases hdd : bitI dirty j
              · have hd1 := hdd
                unfold bitI at hd1
                have em : manyTo (bitI dirty) (bitI wash) (bitI drop) (j + 1) = mm := by rw [manyTo_succ, hr, hw, hdd, ← HMM.out]; rfl
                have el : leftTo (bitI drop) (j + 1) = ll + 1 := by rw [leftTo_succ, hr, ← HLL.out]; rfl
                have hfin : WashL b k (bitI dirty) (bitI wash) (bitI drop) w Fr (.int .i64 (mm : Int)) (.int .i64 ((ll : Int) + 1)) (.int .i64 ((j : Int) + 1)) w5 := ⟨j + 1, H3, F2, by omega, by go_num, by rw [em]; try go_num, by rw [el]; try go_num, HFY.out, hH6, hG6⟩
                have HFIN := Lib.hid hfin
                clear hfin em el HMM HLL hr hw hdd hH6 hG6
                go_wp2_with fail
                exact ⟨HFIN.out, by simp [intOf]; omega⟩
              · have hd1 := hdd
                unfold bitI at hd1
                have em : manyTo (bitI dirty) (bitI wash) (bitI drop) (j + 1) = mm := by rw [manyTo_succ, hr, hw, hdd, ← HMM.out]; rfl
                have el : leftTo (bitI drop) (j + 1) = ll + 1 := by rw [leftTo_succ, hr, ← HLL.out]; rfl
                have hfin : WashL b k (bitI dirty) (bitI wash) (bitI drop) w Fr (.int .i64 (mm : Int)) (.int .i64 ((ll : Int) + 1)) (.int .i64 ((j : Int) + 1)) w5 := ⟨j + 1, H3, F2, by omega, by go_num, by rw [em]; try go_num, by rw [el]; try go_num, HFY.out, hH6, hG6⟩
                have HFIN := Lib.hid hfin
                clear hfin em el HMM HLL hr hw hdd hH6 hG6
                go_wp2_with fail
                exact ⟨HFIN.out, by simp [intOf]; omega⟩
          · rw [hr] at hr0
            have hr1 := hr
            unfold bitI at hr1
            rw [pgL_drop _ _ _ _ hr] at HDRP
            cases hw : bitI wash j
            · rw [hw] at hw0
              have hw1 := hw
              unfold bitI at hw1
              go_upto_region 15 with fail
              refine Z_begin (fun _ => True ∧ True) 30 (by kernel_rfl) (fun w1 hd => ⟨trivial, trivial⟩) (fun w1 hd hs => ?_)
              have hH5 := hHs.dr hd; have hG5 := hgs.trans (Grew.dr hd); clear hd hHs hgs
              refine Z_takeD 0 (some 63) (v := ?_) rfl rfl (by kernel_rfl) (fun _ _ _ h => h) (by rfl) hs ?_ ?_
              rotate_left
              · intro wx hx; obtain ⟨x0, x1⟩ := hx; go_simp; try with_reducible rfl
              simp only [Act.put, List.setIfInBounds_toArray, List.set_cons_succ, List.set_cons_zero]
              refine Z_takeD 1 (some 64) (v := ?_) rfl rfl (by kernel_rfl) (fun _ _ _ h => h) (by rfl) hs ?_ ?_
              rotate_left
              · intro wx hx; obtain ⟨x0, x1⟩ := hx; go_simp; try with_reducible rfl
              simp only [Act.put, List.setIfInBounds_toArray, List.set_cons_succ, List.set_cons_zero]
              refine Z_takeD 2 (some 65) (v := ?_) rfl rfl (by kernel_rfl) (fun _ _ _ h => h) (by rfl) hs ?_ ?_
              rotate_left
              · intro wx hx; obtain ⟨x0, x1⟩ := hx; go_simp; try with_reducible rfl
              simp only [Act.put, List.setIfInBounds_toArray, List.set_cons_succ, List.set_cons_zero]
              refine Z_takeD 3 (some 66) (v := ?_) rfl rfl (by kernel_rfl) (fun _ _ _ h => h) (by rfl) hs ?_ ?_
              rotate_left
              · intro wx hx; obtain ⟨x0, x1⟩ := hx; go_simp; try with_reducible rfl
              simp only [Act.put, List.setIfInBounds_toArray, List.set_cons_succ, List.set_cons_zero]
              refine Z_takeD 4 (some 67) (v := ?_) rfl rfl (by kernel_rfl) (fun _ _ _ h => h) (by rfl) hs ?_ ?_
              rotate_left
              · intro wx hx; obtain ⟨x0, x1⟩ := hx; go_simp; try with_reducible rfl
              simp only [Act.put, List.setIfInBounds_toArray, List.set_cons_succ, List.set_cons_zero]
              refine Z_takeD 5 (some 68) (v := ?_) rfl rfl (by kernel_rfl) (fun _ _ _ h => h) (by rfl) hs ?_ ?_
              rotate_left
              · intro wx hx; obtain ⟨x0, x1⟩ := hx; go_simp; try with_reducible rfl
              simp only [Act.put, List.setIfInBounds_toArray, List.set_cons_succ, List.set_cons_zero]
              refine Z_takeD 6 (some 69) (v := ?_) rfl rfl (by kernel_rfl) (fun _ _ _ h => h) (by rfl) hs ?_ ?_
              rotate_left
              · intro wx hx; obtain ⟨x0, x1⟩ := hx; go_simp; try with_reducible rfl
              simp only [Act.put, List.setIfInBounds_toArray, List.set_cons_succ, List.set_cons_zero]
              refine Z_takeD 7 (some 70) (v := ?_) rfl rfl (by kernel_rfl) (fun _ _ _ h => h) (by rfl) hs ?_ ?_
              rotate_left
              · intro wx hx; obtain ⟨x0, x1⟩ := hx; go_simp; try with_reducible rfl
              simp only [Act.put, List.setIfInBounds_toArray, List.set_cons_succ, List.set_cons_zero]
              refine Z_mid 8 rfl (by kernel_rfl) (fun K hK => ?_)
              have ⟨x0, x1⟩ := hs
              go_simp; refine (HDRP.out _ hH5).mono ?_; rintro e w5 ⟨ve, H3, He, rfl, he, hd4, hH6, hg6⟩; obtain ⟨rfl, rfl⟩ := isErr0 he; rw [List.nil_append] at hH6; have HFY := Lib.hid hd4; have hG6 := hG5.trans hg6; clear hd4 hg6 he hG5 hH5   -- call w
              clear x0 x1
              refine hK _ _ (⟨trivial, trivial⟩) (fun hs2 => ?_); clear hK K hs; have hs := hs2; clear hs2
              refine Z_takeD 9 (some 72) (v := ?_) rfl rfl (by kernel_rfl) (fun _ _ _ h => h) (by rfl) hs ?_ ?_
              rotate_left
              · intro wx hx; obtain ⟨x0, x1⟩ := hx; go_simp; try with_reducible rfl
              simp only [Act.put, List.setIfInBounds_toArray, List.set_cons_succ, List.set_cons_zero]
              refine Z_takeD 10 (some 73) (v := ?_) rfl rfl (by kernel_rfl) (fun _ _ _ h => h) (by rfl) hs ?_ ?_
              rotate_left
              · intro wx hx; obtain ⟨x0, x1⟩ := hx; go_simp; try with_reducible rfl
              simp only [Act.put, List.setIfInBounds_toArray, List.set_cons_succ, List.set_cons_zero]
              refine Z_takeD 11 (some 74) (v := ?_) rfl rfl (by kernel_rfl) (fun _ _ _ h => h) (by rfl) hs ?_ ?_
              rotate_left
              · intro wx hx; obtain ⟨x0, x1⟩ := hx; go_simp; try with_reducible rfl
              simp only [Act.put, List.setIfInBounds_toArray, List.set_cons_succ, List.set_cons_zero]
              refine Z_takeD 12 (some 75) (v := ?_) rfl rfl (by kernel_rfl) (fun _ _ _ h => h) (by rfl) hs ?_ ?_
              rotate_left
              · intro wx hx; obtain ⟨x0, x1⟩ := hx; go_simp; try with_reducible rfl
              simp only [Act.put, List.setIfInBounds_toArray, List.set_cons_succ, List.set_cons_zero]
              refine Z_takeD 13 (some 76) (v := ?_) rfl rfl (by kernel_rfl) (fun _ _ _ h => h) (by rfl) hs ?_ ?_
              rotate_left
              · intro wx hx; obtain ⟨x0, x1⟩ := hx; go_simp; try with_reducible rfl
              simp only [Act.put, List.setIfInBounds_toArray, List.set_cons_succ, List.set_cons_zero]
              refine Z_takeD 14 (some 77) (v := ?_) rfl rfl (by kernel_rfl) (fun _ _ _ h => h) (by rfl) hs ?_ ?_
              rotate_left
              · intro wx hx; obtain ⟨x0, x1⟩ := hx; go_simp; try with_reducible rfl
              simp only [Act.put, List.setIfInBounds_toArray, List.set_cons_succ, List.set_cons_zero]
              refine Z_takeD 15 (some 78) (v := ?_) rfl rfl (by kernel_rfl) (fun _ _ _ h => h) (by rfl) hs ?_ ?_
              rotate_left
              · intro wx hx; obtain ⟨x0, x1⟩ := hx; go_simp; try with_reducible rfl
              simp only [Act.put, List.setIfInBounds_toArray, List.set_cons_succ, List.set_cons_zero]
              refine Z_takeD 16 (some 79) (v := ?_) rfl rfl (by kernel_rfl) (fun _ _ _ h => h) (by rfl) hs ?_ ?_
              rotate_left
              · intro wx hx; obtain ⟨x0, x1⟩ := hx; go_simp; try with_reducible rfl
              simp only [Act.put, List.setIfInBounds_toArray, List.set_cons_succ, List.set_cons_zero]
              refine Z_takeD 17 (some 80) (v := ?_) rfl rfl (by kernel_rfl) (fun _ _ _ h => h) (by rfl) hs ?_ ?_
              rotate_left
              · intro wx hx; obtain ⟨x0, x1⟩ := hx; go_simp; try with_reducible rfl
              simp only [Act.put, List.setIfInBounds_toArray, List.set_cons_succ, List.set_cons_zero]
              refine Z_skipD 18 (some 81) rfl rfl (by kernel_rfl) (fun _ _ _ h => h) (by rfl) hs ?_
              simp only [Act.put, List.setIfInBounds_toArray, List.set_cons_succ, List.set_cons_zero]
              refine Z_skipD 19 (some 82) rfl rfl (by kernel_rfl) (fun _ _ _ h => h) (by rfl) hs ?_
              simp only [Act.put, List.setIfInBounds_toArray, List.set_cons_succ, List.set_cons_zero]
              refine Z_skipD 22 (some 85) rfl rfl (by kernel_rfl) (fun _ _ _ h => h) (by rfl) hs ?_
              simp only [Act.put, List.setIfInBounds_toArray, List.set_cons_succ, List.set_cons_zero]
              refine Z_skipD 23 (some 86) rfl rfl (by kernel_rfl) (fun _ _ _ h => h) (by rfl) hs ?_
              simp only [Act.put, List.setIfInBounds_toArray, List.set_cons_succ, List.set_cons_zero]
              refine Z_skipD 24 (some 87) rfl rfl (by kernel_rfl) (fun _ _ _ h => h) (by rfl) hs ?_
              simp only [Act.put, List.setIfInBounds_toArray, List.set_cons_succ, List.set_cons_zero]
              refine Z_skipD 25 (some 88) rfl rfl (by kernel_rfl) (fun _ _ _ h => h) (by rfl) hs ?_
              simp only [Act.put, List.setIfInBounds_toArray, List.set_cons_succ, List.set_cons_zero]
              refine Z_skipD 26 (some 89) rfl rfl (by kernel_rfl) (fun _ _ _ h => h) (by rfl) hs ?_
              simp only [Act.put, List.setIfInBounds_toArray, List.set_cons_succ, List.set_cons_zero]
              refine Z_skipD 20 (some 83) rfl rfl (by kernel_rfl) (fun _ _ _ h => h) (by rfl) hs ?_
              simp only [Act.put, List.setIfInBounds_toArray, List.set_cons_succ, List.set_cons_zero]
              refine Z_skipD 21 (some 84) rfl rfl (by kernel_rfl) (fun _ _ _ h => h) (by rfl) hs ?_
              simp only [Act.put, List.setIfInBounds_toArray, List.set_cons_succ, List.set_cons_zero]
              refine Z_skipD 27 (some 90) rfl rfl (by kernel_rfl) (fun _ _ _ h => h) (by rfl) hs ?_
              simp only [Act.put, List.setIfInBounds_toArray, List.set_cons_succ, List.set_cons_zero]
              refine Z_takeD 28 (some 91) (v := ?_) rfl rfl (by kernel_rfl) (fun _ _ _ h => h) (by rfl) hs ?_ ?_
              rotate_left
              · intro wx hx; obtain ⟨x0, x1⟩ := hx; go_simp; try with_reducible rfl
              simp only [Act.put, List.setIfInBounds_toArray, List.set_cons_succ, List.set_cons_zero]
              refine Z_takeD 29 (some 92) (v := ?_) rfl rfl (by kernel_rfl) (fun _ _ _ h => h) (by rfl) hs ?_ ?_
              rotate_left
              · intro wx hx; obtain ⟨x0, x1⟩ := hx; go_simp; try with_reducible rfl
              simp only [Act.put, List.setIfInBounds_toArray, List.set_cons_succ, List.set_cons_zero]
              refine Z_done (by kernel_rfl) ?_ _
              cases hdd : bitI dirty j
              · have hd1 := hdd
                unfold bitI at hd1
                have em : manyTo (bitI dirty) (bitI wash) (bitI drop) (j + 1) = mm := by rw [manyTo_succ, hr, hw, hdd, ← HMM.out]; rfl
                have el : leftTo (bitI drop) (j + 1) = ll := by rw [leftTo_succ, hr, ← HLL.out]; rfl
                have hfin : WashL b k (bitI dirty) (bitI wash) (bitI drop) w Fr (.int .i64 (mm : Int)) (.int .i64 (ll : Int)) (.int .i64 ((j : Int) + 1)) w5 := ⟨j + 1, H3, F2, by omega, by go_num, by rw [em]; try go_num, by rw [el]; try go_num, HFY.out, hH6, hG6⟩
                have HFIN := Lib.hid hfin
                clear hfin em el HMM HLL hr hw hdd hH6 hG6
                go_wp2_with fail
                exact ⟨HFIN.out, by simp [intOf]; omega⟩
              · have hd1 := hdd
                unfold bitI at hd1
                have em : manyTo (bitI dirty) (bitI wash) (bitI drop) (j + 1) = mm := by rw [manyTo_succ, hr, hw, hdd, ← HMM.out]; rfl
                have el : leftTo (bitI drop) (j + 1) = ll := by rw [leftTo_succ, hr, ← HLL.out]; rfl
                have hfin : WashL b k (bitI dirty) (bitI wash) (bitI drop) w Fr (.int .i64 (mm : Int)) (.int .i64 (ll : Int)) (.int .i64 ((j : Int) + 1)) w5 := ⟨j + 1, H3, F2, by omega, by go_num, by rw [em]; try go_num, by rw [el]; try go_num, HFY.out, hH6, hG6⟩
                have HFIN := Lib.hid hfin
                clear hfin em el HMM HLL hr hw hdd hH6 hG6
                go_wp2_with fail
                exact ⟨HFIN.out, by simp [intOf]; omega⟩
            · rw [hw] at hw0
              have hw1 := hw
              unfold bitI at hw1
              go_upto_region 15 with fail
              refine Z_begin (fun _ => True ∧ True) 30 (by kernel_rfl) (fun w1 hd => ⟨trivial, trivial⟩) (fun w1 hd hs => ?_)
              have hH5 := hHs.dr hd; have hG5 := hgs.trans (Grew.dr hd); clear hd hHs hgs
              refine Z_takeD 0 (some 63) (v := ?_) rfl rfl (by kernel_rfl) (fun _ _ _ h => h) (by rfl) hs ?_ ?_
              rotate_left
              · intro wx hx; obtain ⟨x0, x1⟩ := hx; go_simp; try with_reducible rfl
              simp only [Act.put, List.setIfInBounds_toArray, List.set_cons_succ, List.set_cons_zero]
              refine Z_takeD 1 (some 64) (v := ?_) rfl rfl (by kernel_rfl) (fun _ _ _ h => h) (by rfl) hs ?_ ?_
              rotate_left
              · intro wx hx; obtain ⟨x0, x1⟩ := hx; go_simp; try with_reducible rfl
              simp only [Act.put, List.setIfInBounds_toArray, List.set_cons_succ, List.set_cons_zero]
              refine Z_takeD 2 (some 65) (v := ?_) rfl rfl (by kernel_rfl) (fun _ _ _ h => h) (by rfl) hs ?_ ?_
              rotate_left
              · intro wx hx; obtain ⟨x0, x1⟩ := hx; go_simp; try with_reducible rfl
              simp only [Act.put, List.setIfInBounds_toArray, List.set_cons_succ, List.set_cons_zero]
              refine Z_takeD 3 (some 66) (v := ?_) rfl rfl (by kernel_rfl) (fun _ _ _ h => h) (by rfl) hs ?_ ?_
              rotate_left
              · intro wx hx; obtain ⟨x0, x1⟩ := hx; go_simp; try with_reducible rfl
              simp only [Act.put, List.setIfInBounds_toArray, List.set_cons_succ, List.set_cons_zero]
              refine Z_takeD 4 (some 67) (v := ?_) rfl rfl (by kernel_rfl) (fun _ _ _ h => h) (by rfl) hs ?_ ?_
              rotate_left
              · intro wx hx; obtain ⟨x0, x1⟩ := hx; go_simp; try with_reducible rfl
              simp only [Act.put, List.setIfInBounds_toArray, List.set_cons_succ, List.set_cons_zero]
              refine Z_takeD 5 (some 68) (v := ?_) rfl rfl (by kernel_rfl) (fun _ _ _ h => h) (by rfl) hs ?_ ?_
              rotate_left
              · intro wx hx; obtain ⟨x0, x1⟩ := hx; go_simp; try with_reducible rfl
              simp only [Act.put, List.setIfInBounds_toArray, List.set_cons_succ, List.set_cons_zero]
              refine Z_takeD 6 (some 69) (v := ?_) rfl rfl (by kernel_rfl) (fun _ _ _ h => h) (by rfl) hs ?_ ?_
              rotate_left
              · intro wx hx; obtain ⟨x0, x1⟩ := hx; go_simp; try with_reducible rfl
              simp only [Act.put, List.setIfInBounds_toArray, List.set_cons_succ, List.set_cons_zero]
              refine Z_takeD 7 (some 70) (v := ?_) rfl rfl (by kernel_rfl) (fun _ _ _ h => h) (by rfl) hs ?_ ?_
              rotate_left
              · intro wx hx; obtain ⟨x0, x1⟩ := hx; go_simp; try with_reducible rfl
              simp only [Act.put, List.setIfInBounds_toArray, List.set_cons_succ, List.set_cons_zero]
              refine Z_mid 8 rfl (by kernel_rfl) (fun K hK => ?_)
              have ⟨x0, x1⟩ := hs
              go_simp; refine (HDRP.out _ hH5).mono ?_; rintro e w5 ⟨ve, H3, He, rfl, he, hd4, hH6, hg6⟩; obtain ⟨rfl, rfl⟩ := isErr0 he; rw [List.nil_append] at hH6; have HFY := Lib.hid hd4; have hG6 := hG5.trans hg6; clear hd4 hg6 he hG5 hH5   -- call w
              clear x0 x1
              refine hK _ _ (⟨trivial, trivial⟩) (fun hs2 => ?_); clear hK K hs; have hs := hs2; clear hs2
              refine Z_takeD 9 (some 72) (v := ?_) rfl rfl (by kernel_rfl) (fun _ _ _ h => h) (by rfl) hs ?_ ?_
              rotate_left
              · intro wx hx; obtain ⟨x0, x1⟩ := hx; go_simp; try with_reducible rfl
              simp only [Act.put, List.setIfInBounds_toArray, List.set_cons_succ, List.set_cons_zero]
              refine Z_takeD 10 (some 73) (v := ?_) rfl rfl (by kernel_rfl) (fun _ _ _ h => h) (by rfl) hs ?_ ?_
              rotate_left
              · intro wx hx; obtain ⟨x0, x1⟩ := hx; go_simp; try with_reducible rfl
              simp only [Act.put, List.setIfInBounds_toArray, List.set_cons_succ, List.set_cons_zero]
              refine Z_takeD 11 (some 74) (v := ?_) rfl rfl (by kernel_rfl) (fun _ _ _ h => h) (by rfl) hs ?_ ?_
              rotate_left
              · intro wx hx; obtain ⟨x0, x1⟩ := hx; go_simp; try with_reducible rfl
              simp only [Act.put, List.setIfInBounds_toArray, List.set_cons_succ, List.set_cons_zero]
              refine Z_takeD 12 (some 75) (v := ?_) rfl rfl (by kernel_rfl) (fun _ _ _ h => h) (by rfl) hs ?_ ?_
              rotate_left
              · intro wx hx; obtain ⟨x0, x1⟩ := hx; go_simp; try with_reducible rfl
              simp only [Act.put, List.setIfInBounds_toArray, List.set_cons_succ, List.set_cons_zero]
              refine Z_takeD 13 (some 76) (v := ?_) rfl rfl (by kernel_rfl) (fun _ _ _ h => h) (by rfl) hs ?_ ?_
              rotate_left
              · intro wx hx; obtain ⟨x0, x1⟩ := hx; go_simp; try with_reducible rfl
              simp only [Act.put, List.setIfInBounds_toArray, List.set_cons_succ, List.set_cons_zero]
              refine Z_takeD 14 (some 77) (v := ?_) rfl rfl (by kernel_rfl) (fun _ _ _ h => h) (by rfl) hs ?_ ?_
              rotate_left
              · intro wx hx; obtain ⟨x0, x1⟩ := hx; go_simp; try with_reducible rfl
              simp only [Act.put, List.setIfInBounds_toArray, List.set_cons_succ, List.set_cons_zero]
              refine Z_takeD 15 (some 78) (v := ?_) rfl rfl (by kernel_rfl) (fun _ _ _ h => h) (by rfl) hs ?_ ?_
              rotate_left
              · intro wx hx; obtain ⟨x0, x1⟩ := hx; go_simp; try with_reducible rfl
              simp only [Act.put, List.setIfInBounds_toArray, List.set_cons_succ, List.set_cons_zero]
              refine Z_takeD 16 (some 79) (v := ?_) rfl rfl (by kernel_rfl) (fun _ _ _ h => h) (by rfl) hs ?_ ?_
              rotate_left
              · intro wx hx; obtain ⟨x0, x1⟩ := hx; go_simp; try with_reducible rfl
              simp only [Act.put, List.setIfInBounds_toArray, List.set_cons_succ, List.set_cons_zero]
              refine Z_takeD 17 (some 80) (v := ?_) rfl rfl (by kernel_rfl) (fun _ _ _ h => h) (by rfl) hs ?_ ?_
              rotate_left
              · intro wx hx; obtain ⟨x0, x1⟩ := hx; go_simp; try with_reducible rfl
              simp only [Act.put, List.setIfInBounds_toArray, List.set_cons_succ, List.set_cons_zero]
              refine Z_takeD 18 (some 81) (v := ?_) rfl rfl (by kernel_rfl) (fun _ _ _ h => h) (by rfl) hs ?_ ?_
              rotate_left
              · intro wx hx; obtain ⟨x0, x1⟩ := hx; go_simp; try with_reducible rfl
              simp only [Act.put, List.setIfInBounds_toArray, List.set_cons_succ, List.set_cons_zero]
              refine Z_takeD 19 (some 82) (v := ?_) rfl rfl (by kernel_rfl) (fun _ _ _ h => h) (by rfl) hs ?_ ?_
              rotate_left
              · intro wx hx; obtain ⟨x0, x1⟩ := hx; go_simp; try with_reducible rfl
              simp only [Act.put, List.setIfInBounds_toArray, List.set_cons_succ, List.set_cons_zero]
              refine Z_takeD 22 (some 85) (v := ?_) rfl rfl (by kernel_rfl) (fun _ _ _ h => h) (by rfl) hs ?_ ?_
              rotate_left
              · intro wx hx; obtain ⟨x0, x1⟩ := hx; go_simp; try with_reducible rfl
              simp only [Act.put, List.setIfInBounds_toArray, List.set_cons_succ, List.set_cons_zero]
              refine Z_takeD 23 (some 86) (v := ?_) rfl rfl (by kernel_rfl) (fun _ _ _ h => h) (by rfl) hs ?_ ?_
              rotate_left
              · intro wx hx; obtain ⟨x0, x1⟩ := hx; go_simp; try with_reducible rfl
              simp only [Act.put, List.setIfInBounds_toArray, List.set_cons_succ, List.set_cons_zero]
              refine Z_takeD 24 (some 87) (v := ?_) rfl rfl (by kernel_rfl) (fun _ _ _ h => h) (by rfl) hs ?_ ?_
              rotate_left
              · intro wx hx; obtain ⟨x0, x1⟩ := hx; go_simp; try with_reducible rfl
              simp only [Act.put, List.setIfInBounds_toArray, List.set_cons_succ, List.set_cons_zero]
              refine Z_takeD 25 (some 88) (v := ?_) rfl rfl (by kernel_rfl) (fun _ _ _ h => h) (by rfl) hs ?_ ?_
              rotate_left
              · intro wx hx; obtain ⟨x0, x1⟩ := hx; go_simp; try with_reducible rfl
              simp only [Act.put, List.setIfInBounds_toArray, List.set_cons_succ, List.set_cons_zero]
              refine Z_takeD 26 (some 89) (v := ?_) rfl rfl (by kernel_rfl) (fun _ _ _ h => h) (by rfl) hs ?_ ?_
              rotate_left
              · intro wx hx; obtain ⟨x0, x1⟩ := hx; go_simp; try with_reducible rfl
              simp only [Act.put, List.setIfInBounds_toArray, List.set_cons_succ, List.set_cons_zero]
              refine Z_mid 20 rfl (by kernel_rfl) (fun K hK => ?_)
              have ⟨x0, x1⟩ := hs
              go_simp; have hws := ywash_any 2 (j : Int) HFY.out hH6; rw [yW_wash_no hlt (pgL_drop_at _ _ _ _ hr)] at hws; refine hws.mono ?_; rintro e w6 ⟨ve, H4, He, rfl, he, hd4, hH7, hg7⟩; obtain ⟨b5, s5, rfl, _⟩ := isErrP he (show (8 : Int) ≠ 0 by decide); clear HFY; have HFY := Lib.hid hd4; have hG7 := hG6.trans hg7; clear hws hd4 hg7 hG6 hH6   -- call w
              clear x0 x1
              refine hK _ _ (⟨trivial, trivial⟩) (fun hs2 => ?_); clear hK K hs; have hs := hs2; clear hs2
              refine Z_takeD 21 (some 84) (v := ?_) rfl rfl (by kernel_rfl) (fun _ _ _ h => h) (by rfl) hs ?_ ?_
              rotate_left
              · intro wx hx; obtain ⟨x0, x1⟩ := hx; go_simp; try with_reducible rfl
              simp only [Act.put, List.setIfInBounds_toArray, List.set_cons_succ, List.set_cons_zero]
              refine Z_takeD 27 (some 90) (v := ?_) rfl rfl (by kernel_rfl) (fun _ _ _ h => h) (by rfl) hs ?_ ?_
              rotate_left
              · intro wx hx; obtain ⟨x0, x1⟩ := hx; go_simp; try with_reducible rfl
              simp only [Act.put, List.setIfInBounds_toArray, List.set_cons_succ, List.set_cons_zero]
              refine Z_takeD 28 (some 91) (v := ?_) rfl rfl (by kernel_rfl) (fun _ _ _ h => h) (by rfl) hs ?_ ?_
              rotate_left
              · intro wx hx; obtain ⟨x0, x1⟩ := hx; go_simp; try with_reducible rfl
              simp only [Act.put, List.setIfInBounds_toArray, List.set_cons_succ, List.set_cons_zero]
              refine Z_takeD 29 (some 92) (v := ?_) rfl rfl (by kernel_rfl) (fun _ _ _ h => h) (by rfl) hs ?_ ?_
              rotate_left
              · intro wx hx; obtain ⟨x0, x1⟩ := hx; go_simp; try with_reducible rfl
              simp only [Act.put, List.setIfInBounds_toArray, List.set_cons_succ, List.set_cons_zero]
              refine Z_done (by kernel_rfl) ?_ _
              cases hdd : bitI dirty j
              · have hd1 := hdd
                unfold bitI at hd1
                have em : manyTo (bitI dirty) (bitI wash) (bitI drop) (j + 1) = mm := by rw [manyTo_succ, hr, hw, hdd, ← HMM.out]; rfl
                have el : leftTo (bitI drop) (j + 1) = ll := by rw [leftTo_succ, hr, ← HLL.out]; rfl
                have hfin : WashL b k (bitI dirty) (bitI wash) (bitI drop) w Fr (.int .i64 (mm : Int)) (.int .i64 (ll : Int)) (.int .i64 ((j : Int) + 1)) w6 := ⟨j + 1, H4, He ++ F2, by omega, by go_num, by rw [em]; try go_num, by rw [el]; try go_num, HFY.out, by rw [List.append_assoc]; exact hH7, hG7⟩
                have HFIN := Lib.hid hfin
                clear hfin em el HMM HLL hr hw hdd hH7 hG7
                go_wp2_with fail
                exact ⟨HFIN.out, by simp [intOf]; omega⟩
              · have hd1 := hdd
                unfold bitI at hd1
                have em : manyTo (bitI dirty) (bitI wash) (bitI drop) (j + 1) = mm := by rw [manyTo_succ, hr, hw, hdd, ← HMM.out]; rfl
                have el : leftTo (bitI drop) (j + 1) = ll := by rw [leftTo_succ, hr, ← HLL.out]; rfl
                have hfin : WashL b k (bitI dirty) (bitI wash) (bitI drop) w Fr (.int .i64 (mm : Int)) (.int .i64 (ll : Int)) (.int .i64 ((j : Int) + 1)) w6 := ⟨j + 1, H4, He ++ F2, by omega, by go_num, by rw [em]; try go_num, by rw [el]; try go_num, HFY.out, by rw [List.append_assoc]; exact hH7, hG7⟩
                have HFIN := Lib.hid hfin
                clear hfin em el HMM HLL hr hw hdd hH7 hG7
                go_wp2_with fail
                exact ⟨HFIN.out, by simp [intOf]; omega⟩
        · have hjk : j = k := by omega
          subst hjk
          go_wp2_with fail
          refine (yneededL_any 2 HD3.out hHs).mono ?_
          rw [yW_left]
          rintro e w5 ⟨nv, Hn, rfl, hnv, hH5, hg5⟩
          have hnl : (((List.range j).filter fun i => !bitI drop i).map fun i : Nat => (i : Int)).length = leftTo (bitI drop) j := by rw [List.length_map]; rfl
          have hle : leftTo (bitI drop) j ≤ j := filt_le _ _
          have hmle : manyTo (bitI dirty) (bitI wash) (bitI drop) j ≤ j := filt_le _ _
          have HND := Lib.hid (yW_left j 2 (j : Int) (bitI dirty) (bitI wash) (bitI drop))
          have hall : ∀ x ∈ (((List.range j).filter fun i => !bitI drop i).map fun i : Nat => (i : Int)), ∃ q : Nat, x = (q : Int) ∧ q < j ∧ bitI drop q = false := by
            intro x hx
            obtain ⟨q, hq, rfl⟩ := List.mem_map.1 hx
            obtain ⟨h1, h2⟩ := List.mem_filter.1 hq
            exact ⟨q, rfl, List.mem_range.1 h1, by simpa using h2⟩
          have HALL := Lib.hid hall; clear hall
          generalize (((List.range j).filter fun i => !bitI drop i).map fun i : Nat => (i : Int)) = l at *
          have hG5 := hgs.trans hg5
          obtain ⟨An, cn, rfl⟩ := hnv.val
          have HNV := Lib.hid (fun (wx : World) (F : HL) (hx : Holds wx (Hn ++ F)) => hnv.at_ hx)
          clear hnv hHs hgs hg5
          generalize leftTo (bitI drop) j = ll at *
          generalize hmm : manyTo (bitI dirty) (bitI wash) (bitI drop) j = mm at *
          have HMM := Lib.hid hmm; clear hmm
          go_wp2_with fail
          go_loopw [17] (fun iv wr => WashI l.length (Hn ++ (H2 ++ (F2 ++ Fr))) w iv wr) (fun iv _ => l.length - (intOf iv).toNat)
          case atStart => exact ⟨0, by omega, rfl, hH5, hG5⟩
          case round =>
            obtain ⟨i, hi, rfl, hHt, hgt⟩ := hrel
            clear hH5 hG5
            by_cases hlt2 : i < l.length
            · obtain ⟨_, A9, c9, hv, _, _, hrd⟩ := HNV.out wr _ hHt
              injection hv with hv1 _ hv3
              subst hv1 hv3
              obtain ⟨b3, o3, rfl, hwc⟩ := hrd (by omega)
              have y0 := hwc i (.int .i64 l[i]) (by simp [hlt2])
              obtain ⟨q, hq, hqj, hqr⟩ := HALL.out l[i] (List.getElem_mem hlt2)
              rw [hq] at y0
              clear hwc hrd hq
              unfold bitI at hqr
              have hq1 : decide ((q : Int) < 0) = false := by simp
              go_wp2_with fail
              exact ⟨⟨i + 1, by omega, by go_num, hHt, hgt⟩, by simp [intOf]; omega⟩
            · have hie : i = l.length := by omega
              subst hie
              have hHu := hHt.right
              clear hHt
              subst hnl
              go_wp2_with fail
              refine (ydirty_any 2 HD3.out hHu).mono ?_
              rw [yW_many, HMM.out]
              rintro e w6 ⟨rfl, hH6, hg6⟩
              have hG6 := hgt.trans hg6
              clear hgt hg6 hHu
              go_wp2_with fail
              have hfr := yfree_any 2 HD3.out hH6
              rw [yW_free, HND.out] at hfr
              clear HND
              by_cases hl0 : l = []
              · rw [if_pos hl0] at hfr
                have hln : l.length = 0 := by rw [hl0]; rfl
                clear hl0
                refine hfr.mono ?_
                rintro e w7 ⟨ve, H3, He, rfl, he, hd, hH7, hg7⟩
                obtain ⟨rfl, rfl⟩ := isErr0 he
                have HD4 := Lib.hid hd; clear hd he hfr
                have hG7 := hG6.trans hg7
                clear hG6 hg7 hH6
                have hle0 : ((l.length : Int) == 0) = true := by rw [hln]; rfl
                go_wp2_with fail
                refine (ystate_any 1 HD4.out hH7).mono ?_
                rw [yW_state1]
                rintro e w8 ⟨rfl, hH8, hg8⟩
                go_wp2_with fail
                refine (ydirty_any 1 HD4.out hH8).mono ?_
                rw [yW_dirty1]
                rintro e w9 ⟨rfl, hH9, hg9⟩
                go_wp2_with fail
                refine (awake11_any _ _ hH9.right.right.right).mono ?_
                rintro e wa ⟨rfl, hHa, hga⟩
                go_wp2_with fail
                go_ret
                exact ⟨rfl, hHa, ((hG7.trans hg8).trans hg9).trans hga⟩
              · rw [if_neg hl0] at hfr
                have hln : l.length ≠ 0 := fun h => hl0 (List.length_eq_zero_iff.1 h)
                clear hl0
                refine hfr.mono ?_
                rintro e w7 ⟨ve, H3, He, rfl, he, hd, hH7, hg7⟩
                obtain ⟨b5, s5, rfl, _⟩ := isErrP he (show (9 : Int) ≠ 0 by decide)
                have HD4 := Lib.hid hd; clear hd he hfr
                have hG7 := hG6.trans hg7
                clear hG6 hg7 hH6
                have hle0 : ((l.length : Int) == 0) = false := by simp; intro h; exact hln (by rw [h]; rfl)
                go_wp2_with fail
                refine (ystate_any 1 HD4.out hH7).mono ?_
                rw [yW_state1]
                rintro e w8 ⟨rfl, hH8, hg8⟩
                go_wp2_with fail
                refine (ydirty_any 1 HD4.out hH8).mono ?_
                rw [yW_dirty1]
                rintro e w9 ⟨rfl, hH9, hg9⟩
                go_wp2_with fail
                refine (awake11_any _ _ hH9.right.right.right).mono ?_
                rintro e wa ⟨rfl, hHa, hga⟩
                go_wp2_with fail
                go_ret
                exact ⟨rfl, hHa, ((hG7.trans hg8).trans hg9).trans hga⟩
end Go.Proofs.Yteaeahhjkagbdaa
