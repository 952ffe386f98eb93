/-
  Chapter 18's own answer: May, plain, New, Copy, Addrs, Dirty.
-/
import Derived.Test.YtinfbpldgobmfaaR18D
namespace Go.Proofs.Ytinfbpldgobmfaa
open Go.RowKit
set_option linter.unusedSimpArgs false
set_option linter.unusedVariables false

set_option maxRecDepth 20000 in
set_option maxHeartbeats 4000000 in
theorem r18may_any (b : Nat) (size k a : Int) (A : Option Addr) (n c : Nat) (m : Int) (w : World) (hc : w.cell? ⟨b, 0, none⟩ = some (.int .i64 size)) :
    Calls Try.prog 25 #[.pointer (some ⟨b, 0, none⟩), .agg #[.int .i64 k, .int .u64 a, .slice A n c, .int .i64 m]] w fun e w' => e = .returned (.bool (mayB size k n m)) ∧ w' = w.alloc (.cells #[.int .i64 k, .int .u64 a, .slice A n c, .int .i64 m] 31) := by
  have hlt := World.block_lt_of_cell? w _ hc
  have hc' : (w.alloc (.cells #[.int .i64 k, .int .u64 a, .slice A n c, .int .i64 m] 31)).cell? ⟨b, 0, none⟩ = some (.int .i64 size) := by rw [World.cell?_alloc_lt w _ _ hlt]; exact hc
  have key : ∀ r : Bool, mayB size k n m = r → Calls Try.prog 25 #[.pointer (some ⟨b, 0, none⟩), .agg #[.int .i64 k, .int .u64 a, .slice A n c, .int .i64 m]] w (fun e w' => e = .returned (.bool r) ∧ w' = w.alloc (.cells #[.int .i64 k, .int .u64 a, .slice A n c, .int .i64 m] 31)) → Calls Try.prog 25 #[.pointer (some ⟨b, 0, none⟩), .agg #[.int .i64 k, .int .u64 a, .slice A n c, .int .i64 m]] w (fun e w' => e = .returned (.bool (mayB size k n m)) ∧ w' = w.alloc (.cells #[.int .i64 k, .int .u64 a, .slice A n c, .int .i64 m] 31)) := fun r e h => by rw [e]; exact h
  clear hc
  by_cases hk1 : k = 1
  · subst hk1
    by_cases hn : (n : Int) = size
    · have en : ((n : Int) != size) = false := by simpa using hn
      have hn2 := Lib.hid hn
      clear hn
      refine key (decide (m = 0)) (by simp [mayB, hn2.out]) ?_
      clear key
      go_enter Try.func25, Try.ntmps25
      go_wp2_with fail
      go_ret
      exact ⟨ret_b (by by_cases h : m = 0 <;> simp [h]), rfl⟩
    · have en : ((n : Int) != size) = true := by simpa using hn
      refine key false (by simp [mayB] <;> omega) ?_
      clear key hn
      go_enter Try.func25, Try.ntmps25
      go_wp2_with fail
      go_ret
      exact ⟨rfl, rfl⟩
  by_cases hk2 : k = 2
  · subst hk2
    by_cases hn : (n : Int) = size
    · have en : ((n : Int) != size) = false := by simpa using hn
      have hn2 := Lib.hid hn
      clear hn
      refine key (decide (m = 0)) (by simp [mayB, hn2.out]) ?_
      clear key
      go_enter Try.func25, Try.ntmps25
      go_wp2_with fail
      go_ret
      exact ⟨ret_b (by by_cases h : m = 0 <;> simp [h]), rfl⟩
    · have en : ((n : Int) != size) = true := by simpa using hn
      refine key false (by simp [mayB] <;> omega) ?_
      clear key hn
      go_enter Try.func25, Try.ntmps25
      go_wp2_with fail
      go_ret
      exact ⟨rfl, rfl⟩
  by_cases hk3 : k = 3
  · subst hk3
    by_cases hn : (n : Int) = 0
    · have en : ((n : Int) != 0) = false := by simpa using hn
      have hn0 : n = 0 := by omega
      subst hn0
      refine key (decide (m = 0)) (by simp [mayB]) ?_
      clear key
      go_enter Try.func25, Try.ntmps25
      go_wp2_with fail
      go_ret
      exact ⟨ret_b (by by_cases h : m = 0 <;> simp [h]), rfl⟩
    · have en : ((n : Int) != 0) = true := by simpa using hn
      refine key false (by simp [mayB] <;> omega) ?_
      clear key hn
      go_enter Try.func25, Try.ntmps25
      go_wp2_with fail
      go_ret
      exact ⟨rfl, rfl⟩
  by_cases hk4 : k = 4
  · subst hk4
    by_cases hn : (n : Int) = 0
    · have en : ((n : Int) != 0) = false := by simpa using hn
      have hn0 : n = 0 := by omega
      subst hn0
      refine key (decide (m = 0)) (by simp [mayB]) ?_
      clear key
      go_enter Try.func25, Try.ntmps25
      go_wp2_with fail
      go_ret
      exact ⟨ret_b (by by_cases h : m = 0 <;> simp [h]), rfl⟩
    · have en : ((n : Int) != 0) = true := by simpa using hn
      refine key false (by simp [mayB] <;> omega) ?_
      clear key hn
      go_enter Try.func25, Try.ntmps25
      go_wp2_with fail
      go_ret
      exact ⟨rfl, rfl⟩
  by_cases hk5 : k = 5
  · subst hk5
    by_cases hn : (n : Int) = 0
    · have en : ((n : Int) != 0) = false := by simpa using hn
      have hn0 : n = 0 := by omega
      subst hn0
      refine key (decide (m = 0)) (by simp [mayB]) ?_
      clear key
      go_enter Try.func25, Try.ntmps25
      go_wp2_with fail
      go_ret
      exact ⟨ret_b (by by_cases h : m = 0 <;> simp [h]), rfl⟩
    · have en : ((n : Int) != 0) = true := by simpa using hn
      refine key false (by simp [mayB] <;> omega) ?_
      clear key hn
      go_enter Try.func25, Try.ntmps25
      go_wp2_with fail
      go_ret
      exact ⟨rfl, rfl⟩
  by_cases hk6 : k = 6
  · subst hk6
    by_cases hn : (n : Int) = 0
    · have en : ((n : Int) != 0) = false := by simpa using hn
      have hn0 : n = 0 := by omega
      subst hn0
      by_cases hm0 : 0 ≤ m
      · by_cases hm1 : m ≤ 64
        · refine key true (by simp [mayB, hm0, hm1]) ?_
          clear key
          go_enter Try.func25, Try.ntmps25
          go_wp2_with fail
          go_ret
          exact ⟨rfl, rfl⟩
        · refine key false (by simp [mayB, hm1] <;> omega) ?_
          clear key
          go_enter Try.func25, Try.ntmps25
          go_wp2_with fail
          go_ret
          exact ⟨ret_b (by simp <;> omega), rfl⟩
      · refine key false (by simp [mayB, hm0]) ?_
        clear key
        go_enter Try.func25, Try.ntmps25
        go_wp2_with fail
        go_ret
        exact ⟨rfl, rfl⟩
    · have en : ((n : Int) != 0) = true := by simpa using hn
      refine key false (by simp [mayB] <;> omega) ?_
      clear key hn
      go_enter Try.func25, Try.ntmps25
      go_wp2_with fail
      go_ret
      exact ⟨rfl, rfl⟩
  refine key false (by unfold mayB; rw [if_neg (by omega), if_neg hk6, if_neg (by omega)]) ?_
  have e1 : (k == 1) = false := by simpa using hk1
  have e2 : (k == 2) = false := by simpa using hk2
  clear key
  by_cases hn : (n : Int) = 0
  · have en : ((n : Int) != 0) = false := by simpa using hn
    have hn0 : n = 0 := by omega
    subst hn0
    by_cases hk : k < 1
    · go_enter Try.func25, Try.ntmps25
      go_wp2_with fail
      go_ret
      exact ⟨rfl, rfl⟩
    · have hk7 : 6 < k := by omega
      go_enter Try.func25, Try.ntmps25
      go_wp2_with fail
      go_ret
      exact ⟨rfl, rfl⟩
  · have en : ((n : Int) != 0) = true := by simpa using hn
    clear hn
    go_enter Try.func25, Try.ntmps25
    go_wp2_with fail
    go_ret
    exact ⟨rfl, rfl⟩
set_option maxRecDepth 20000 in
set_option maxHeartbeats 4000000 in
theorem r18plain_any (rk rc : Int) (A : Option Addr) (n c : Nat) (y : Bool) (Z : Option Addr) (z cz : Nat) (w : World) :
    Calls Try.prog 42 #[.agg #[.int .i64 rk, .int .i64 rc, .slice A n c, .bool y, .slice Z z cz]] w fun e w' => e = .returned (.bool (repB rk rc n y z)) ∧ w' = w.alloc (.cells #[.int .i64 rk, .int .i64 rc, .slice A n c, .bool y, .slice Z z cz] 34) := by
  have key : ∀ r : Bool, repB rk rc n y z = r → Calls Try.prog 42 #[.agg #[.int .i64 rk, .int .i64 rc, .slice A n c, .bool y, .slice Z z cz]] w (fun e w' => e = .returned (.bool r) ∧ w' = w.alloc (.cells #[.int .i64 rk, .int .i64 rc, .slice A n c, .bool y, .slice Z z cz] 34)) → Calls Try.prog 42 #[.agg #[.int .i64 rk, .int .i64 rc, .slice A n c, .bool y, .slice Z z cz]] w (fun e w' => e = .returned (.bool (repB rk rc n y z)) ∧ w' = w.alloc (.cells #[.int .i64 rk, .int .i64 rc, .slice A n c, .bool y, .slice Z z cz] 34)) := fun r e h => by rw [e]; exact h
  by_cases hk1 : rk = 1
  · subst hk1
    by_cases hc : rc = 0
    · subst hc
      by_cases hn : n = 0
      · subst hn
        cases y with
        | false =>
          by_cases hz : z = 0
          · subst hz
            refine key true (by simp [repB]) ?_
            clear key
            go_enter Try.func42, Try.ntmps42
            go_wp2_with fail
            go_ret
            exact ⟨rfl, rfl⟩
          · have hz1 : (0 : Int) < z := by omega
            have HZ := Lib.hid hz
            clear hz
            refine key false (by simp [repB, HZ.out]) ?_
            clear key
            go_enter Try.func42, Try.ntmps42
            go_wp2_with fail
            go_ret
            exact ⟨rfl, rfl⟩
        | true =>
          refine key false (by simp [repB]) ?_
          clear key
          go_enter Try.func42, Try.ntmps42
          go_wp2_with fail
          go_ret
          exact ⟨rfl, rfl⟩
      · have hn1 : (0 : Int) < n := by omega
        have HN := Lib.hid hn
        clear hn
        refine key false (by simp [repB, HN.out]) ?_
        clear key
        go_enter Try.func42, Try.ntmps42
        go_wp2_with fail
        go_ret
        exact ⟨rfl, rfl⟩
    · have ec : (rc != 0) = true := by simpa using hc
      have HC := Lib.hid hc
      clear hc
      refine key false (by simp [repB, HC.out]) ?_
      clear key
      go_enter Try.func42, Try.ntmps42
      go_wp2_with fail
      go_ret
      exact ⟨rfl, rfl⟩
  by_cases hk2 : rk = 2
  · subst hk2
    by_cases hc : rc = 0
    · subst hc
      by_cases hz : z = 0
      · subst hz
        refine key true (by simp [repB]) ?_
        clear key
        go_enter Try.func42, Try.ntmps42
        go_wp2_with fail
        go_ret
        exact ⟨rfl, rfl⟩
      · have hz1 : (0 : Int) < z := by omega
        have HZ := Lib.hid hz
        clear hz
        refine key false (by simp [repB, HZ.out]) ?_
        clear key
        go_enter Try.func42, Try.ntmps42
        go_wp2_with fail
        go_ret
        exact ⟨rfl, rfl⟩
    · have ec : (rc != 0) = true := by simpa using hc
      have HC := Lib.hid hc
      clear hc
      refine key false (by simp [repB, HC.out]) ?_
      clear key
      go_enter Try.func42, Try.ntmps42
      go_wp2_with fail
      go_ret
      exact ⟨rfl, rfl⟩
  by_cases hk3 : rk = 3
  · subst hk3
    by_cases hc : rc = 0
    · subst hc
      by_cases hn : n = 0
      · subst hn
        cases y with
        | false =>
          refine key true (by simp [repB]) ?_
          clear key
          go_enter Try.func42, Try.ntmps42
          go_wp2_with fail
          go_ret
          exact ⟨rfl, rfl⟩
        | true =>
          refine key false (by simp [repB]) ?_
          clear key
          go_enter Try.func42, Try.ntmps42
          go_wp2_with fail
          go_ret
          exact ⟨rfl, rfl⟩
      · have hn1 : (0 : Int) < n := by omega
        have HN := Lib.hid hn
        clear hn
        refine key false (by simp [repB, HN.out]) ?_
        clear key
        go_enter Try.func42, Try.ntmps42
        go_wp2_with fail
        go_ret
        exact ⟨rfl, rfl⟩
    · have ec : (rc != 0) = true := by simpa using hc
      have HC := Lib.hid hc
      clear hc
      refine key false (by simp [repB, HC.out]) ?_
      clear key
      go_enter Try.func42, Try.ntmps42
      go_wp2_with fail
      go_ret
      exact ⟨rfl, rfl⟩
  by_cases hk4 : rk = 4
  · subst hk4
    by_cases hn : n = 0
    · subst hn
      cases y with
      | false =>
        by_cases hz : z = 0
        · subst hz
          refine key true (by simp [repB]) ?_
          clear key
          go_enter Try.func42, Try.ntmps42
          go_wp2_with fail
          go_ret
          exact ⟨rfl, rfl⟩
        · have hz1 : (0 : Int) < z := by omega
          have HZ := Lib.hid hz
          clear hz
          refine key false (by simp [repB, HZ.out]) ?_
          clear key
          go_enter Try.func42, Try.ntmps42
          go_wp2_with fail
          go_ret
          exact ⟨rfl, rfl⟩
      | true =>
        refine key false (by simp [repB]) ?_
        clear key
        go_enter Try.func42, Try.ntmps42
        go_wp2_with fail
        go_ret
        exact ⟨rfl, rfl⟩
    · have hn1 : (0 : Int) < n := by omega
      have HN := Lib.hid hn
      clear hn
      refine key false (by simp [repB, HN.out]) ?_
      clear key
      go_enter Try.func42, Try.ntmps42
      go_wp2_with fail
      go_ret
      exact ⟨rfl, rfl⟩
  refine key false (by simp [repB, hk1, hk2, hk3, hk4]) ?_
  clear key
  by_cases hk : rk < 1
  · go_enter Try.func42, Try.ntmps42
    go_wp2_with fail
    go_ret
    exact ⟨rfl, rfl⟩
  · have hk5 : 4 < rk := by omega
    go_enter Try.func42, Try.ntmps42
    go_wp2_with fail
    go_ret
    exact ⟨rfl, rfl⟩
theorem r18new_any (n : Int) (w : World) (h1 : 128 ≤ n) (h2 : n ≤ 256) : Calls Try.prog 20 #[.int .i64 n] w fun e w' => e = .returned (.pointer (some ⟨w.heap.size, 0, none⟩)) ∧ w' = w.alloc (.cells #[.int .i64 n, .slice none 0 0] 76) := by
  have e1 : ¬ n < 128 := by omega
  have e2 : ¬ 256 < n := by omega
  go_enter Try.func20, Try.ntmps20
  go_wp2_with fail
  go_ret
  exact ⟨rfl, rfl⟩
theorem r18new_nil (n : Int) (w : World) (h : n < 128 ∨ 256 < n) : Calls Try.prog 20 #[.int .i64 n] w fun e w' => e = .returned (.pointer none) ∧ w = w' := by
  by_cases h1 : n < 128
  · go_enter Try.func20, Try.ntmps20
    go_wp2_with fail
    go_ret
    exact ⟨rfl, rfl⟩
  · have h2 : 256 < n := by omega
    go_enter Try.func20, Try.ntmps20
    go_wp2_with fail
    go_ret
    exact ⟨rfl, rfl⟩
def HasTo (xs : List Int) (x : Int) (w : World) (v : Value) (wr : World) : Prop := ∃ k : Nat, k ≤ xs.length ∧ v = .int .i64 k ∧ (∀ y ∈ xs.take k, x ≠ y) ∧ wr = w
theorem r18has_any (v : Value) (xs : List Int) (x : Int) (w : World) (hv : WsAt w v xs) : Calls Try.prog 63 #[v, .int .u64 x] w fun e w' => e = .returned (.bool (xs.contains x)) ∧ w = w' := by
  obtain ⟨_, A, c, rfl, hc1, hc2, ha⟩ := hv
  unfold maxLen at hc2
  have Ha := Lib.hid ha
  clear ha
  go_enter Try.func63, Try.ntmps63
  go_wp2_with fail
  go_loopw [5] (fun v wr => HasTo xs x w v wr) (fun v _ => xs.length - (intOf v).toNat)
  case atStart => exact ⟨0, by omega, rfl, by simp, rfl⟩
  case round =>
    obtain ⟨k, hk, rfl, hrel, rfl⟩ := hrel
    have HR := Lib.hid hrel; clear hrel
    by_cases hlt : k < xs.length
    · obtain ⟨b1, o1, rfl, h1⟩ := Ha.out (by omega)
      have c1 : wr.cell? ⟨b1, o1 + k, none⟩ = some (.int .u64 xs[k]) := h1 k _ (by simp [hlt])
      have HT := Lib.hid (List.take_succ_eq_append_getElem hlt)
      have HM := Lib.hid (List.getElem_mem hlt)
      clear h1
      generalize xs[k] = y at *
      by_cases hx : y = x
      · subst hx
        go_wp2_with fail
        go_ret
        exact ⟨by rw [List.contains_iff_mem.2 HM.out]; rfl, rfl⟩
      · have HX := Lib.hid hx
        have ex : (y == x) = false := by simpa using hx
        go_wp2_with fail
        go_roundw
        case rel =>
          refine ⟨k + 1, by omega, by go_num, fun u hu => ?_, rfl⟩
          rw [HT.out] at hu
          rcases List.mem_append.1 hu with hu | hu
          · exact HR.out u hu
          · rw [List.mem_singleton.1 hu]; exact fun e => HX.out e.symm
        case measure => simp [intOf]; omega
    · have hk2 : k = xs.length := by omega
      subst hk2
      go_wp2_with fail
      go_ret
      have : ¬ x ∈ xs := fun hm => HR.out x (by rw [List.take_length]; exact hm) rfl
      exact ⟨ret_b (by simpa using this), rfl⟩
set_option maxRecDepth 20000 in
set_option maxHeartbeats 4000000 in
theorem r18copy_any (b : Nat) (size : Int) (pv : Value) (P : List PV) (Hp Fr : HL) (w : World) (hl : FrPlaces Hp pv P) (hsm : P.length ≤ 10000) (hH : Holds w ((b, .cells #[.int .i64 size, pv] 76) :: (Hp ++ Fr))) :
    Calls Try.prog 22 #[.pointer (some ⟨b, 0, none⟩)] w fun e w' => ∃ b2 pv2 Hn, e = .returned (.pointer (some ⟨b2, 0, none⟩)) ∧ FrPlaces (Hn ++ Hp) pv2 P ∧ Holds w' ((b2, .cells #[.int .i64 size, pv2] 76) :: ((b, .cells #[.int .i64 size, pv] 76) :: ((Hn ++ Hp) ++ Fr))) ∧ Grew w w' := by
  obtain ⟨E, hE, hE2⟩ := hl
  have HCE := Lib.hid hE2
  have HLE : Hid (E.map (·.2) = P) := Lib.hid hE
  have hlen : E.length = P.length := by rw [← hE, List.length_map]
  obtain ⟨A, c, hpv, hnc, hcm⟩ := hE2.1.val hH.tail
  rw [hlen] at hpv hnc
  subst hpv
  unfold maxLen at hcm
  have HONE := Lib.hid (hE2.one hH.tail)
  have HCR : Hid (FrRow Hp 3 (.slice A P.length c) P.length (peC E)) := Lib.hid (by have h := hE2.1; rw [hlen] at h; exact h)
  have HSS : Hid (∀ (wx : World) (X F : HL), Holds wx (X ++ ((b, .cells #[.int .i64 size, .slice A P.length c] 76) :: F)) → wx.cell? ⟨b, 0, none⟩ = some (.int .i64 size) ∧ wx.cell? ⟨b, 1, none⟩ = some (.slice A P.length c)) := Lib.hid (fun wx X F h => ⟨h.right.hcell 0, h.right.hcell 1⟩)
  have HH := Lib.hid hH
  have hblt := hH.hlt
  clear hE hE2 hH
  generalize hPn : P.length = n at *
  go_enter Try.func22, Try.ntmps22
  go_upto_region 1 with fail
  refine Z_begin (fun wx => wx.cell? ⟨b, 0, none⟩ = some (.int .i64 size) ∧ wx.cell? ⟨b, 1, none⟩ = some (.slice A n c)) 12 (by kernel_rfl) (fun w1 hd => HSS.out _ [] _ (HH.out.dr hd)) (fun w1 hd hs => ?_)
  have hH3 := HH.out.dr hd; have hG3 := (Grew.refl w).trans (Grew.dr hd); clear hd
  refine Z_takeD 0 (some 3) (v := ?_) rfl rfl (by kernel_rfl) (fun _ _ _ h => h) (by rfl) hs ?_ ?_
  rotate_left
  · intro wx hx; obtain ⟨s0, s1⟩ := hx; go_simp; try with_reducible rfl
  simp only [Act.put, List.setIfInBounds_toArray, List.set_cons_succ, List.set_cons_zero]
  refine Z_takeD 1 (some 4) (v := ?_) rfl rfl (by kernel_rfl) (fun _ _ _ h => h) (by rfl) hs ?_ ?_
  rotate_left
  · intro wx hx; obtain ⟨s0, s1⟩ := hx; go_simp; try with_reducible rfl
  simp only [Act.put, List.setIfInBounds_toArray, List.set_cons_succ, List.set_cons_zero]
  refine Z_takeD 2 (some 5) (v := ?_) rfl rfl (by kernel_rfl) (fun _ _ _ h => h) (by rfl) hs ?_ ?_
  rotate_left
  · intro wx hx; obtain ⟨s0, s1⟩ := hx; go_simp; try with_reducible rfl
  simp only [Act.put, List.setIfInBounds_toArray, List.set_cons_succ, List.set_cons_zero]
  refine Z_takeD 3 (some 6) (v := ?_) rfl rfl (by kernel_rfl) (fun _ _ _ h => h) (by rfl) hs ?_ ?_
  rotate_left
  · intro wx hx; obtain ⟨s0, s1⟩ := hx; go_simp; try with_reducible rfl
  simp only [Act.put, List.setIfInBounds_toArray, List.set_cons_succ, List.set_cons_zero]
  refine Z_takeD 4 (some 7) (v := ?_) rfl rfl (by kernel_rfl) (fun _ _ _ h => h) (by rfl) hs ?_ ?_
  rotate_left
  · intro wx hx; obtain ⟨s0, s1⟩ := hx; go_simp; try with_reducible rfl
  simp only [Act.put, List.setIfInBounds_toArray, List.set_cons_succ, List.set_cons_zero]
  refine Z_takeD 5 (some 8) (v := ?_) rfl rfl (by kernel_rfl) (fun _ _ _ h => h) (by rfl) hs ?_ ?_
  rotate_left
  · intro wx hx; obtain ⟨s0, s1⟩ := hx; go_simp; try with_reducible rfl
  simp only [Act.put, List.setIfInBounds_toArray, List.set_cons_succ, List.set_cons_zero]
  refine Z_takeD 6 (some 9) (v := ?_) rfl rfl (by kernel_rfl) (fun _ _ _ h => h) (by rfl) hs ?_ ?_
  rotate_left
  · intro wx hx; obtain ⟨s0, s1⟩ := hx; go_simp; try with_reducible rfl
  simp only [Act.put, List.setIfInBounds_toArray, List.set_cons_succ, List.set_cons_zero]
  refine Z_takeD 7 (some 10) (v := ?_) rfl rfl (by kernel_rfl) (fun _ _ _ h => h) (by rfl) hs ?_ ?_
  rotate_left
  · intro wx hx; obtain ⟨s0, s1⟩ := hx; go_simp; try with_reducible rfl
  simp only [Act.put, List.setIfInBounds_toArray, List.set_cons_succ, List.set_cons_zero]
  refine Z_mid 8 rfl (by kernel_rfl) (fun K hK => ?_)
  have ⟨s0, s1⟩ := hs
  refine step_append_T tPlaces (by rfl) _ _ (by rfl) (by rfl) (by rfl) (IsRow.nil _ _) (show Holds w1 (([] : HL) ++ _) from hH3) (HCR.out w1 hH3.tail.left) HONE.out (by simp [maxLen] <;> omega) (by omega) ?_; intro A5 c5 w5 H5 hrow5 hH5 hg5; rw [Nat.zero_add] at hrow5; rw [Nat.zero_add]   -- call w
  clear s0 s1
  refine hK _ _ (HSS.out _ H5 _ hH5) (fun hs2 => ?_); clear hK K hs; have hs := hs2; clear hs2
  refine Z_takeD 9 (some 12) (v := ?_) rfl rfl (by kernel_rfl) (fun _ _ _ h => h) (by rfl) hs ?_ ?_
  rotate_left
  · intro wx hx; obtain ⟨s0, s1⟩ := hx; go_simp; try with_reducible rfl
  simp only [Act.put, List.setIfInBounds_toArray, List.set_cons_succ, List.set_cons_zero]
  refine Z_mid 10 rfl (by kernel_rfl) (fun K hK => ?_)
  have ⟨s0, s1⟩ := hs
  go_simp   -- box w
  clear s0 s1
  refine hK _ _ (HSS.out _ (_ :: H5) _ (hH5.alloc (.cells #[.int .i64 size, .slice A5 n c5] 76))) (fun hs2 => ?_); clear hK K hs; have hs := hs2; clear hs2
  refine Z_takeD 11 (some 2) (v := ?_) rfl rfl (by kernel_rfl) (fun _ _ _ h => h) (by rfl) hs ?_ ?_
  rotate_left
  · intro wx hx; obtain ⟨s0, s1⟩ := hx; go_simp; try with_reducible rfl
  simp only [Act.put, List.setIfInBounds_toArray, List.set_cons_succ, List.set_cons_zero]
  refine Z_done (by kernel_rfl) ?_ _
  have hH6 : Holds (w5.alloc (.cells #[.int .i64 size, .slice A5 n c5] 76)) ((w5.heap.size, .cells #[.int .i64 size, .slice A5 n c5] 76) :: ((b, .cells #[.int .i64 size, .slice A n c] 76) :: ((H5 ++ Hp) ++ Fr))) := by
    have h5 : Holds w5 (H5 ++ ((b, .cells #[.int .i64 size, .slice A n c] 76) :: (Hp ++ Fr))) := hH5
    exact (h5.alloc _).sub (by (repeat' (first | refine sub_append ?_ ?_ | refine sub_cons ?_ ?_ | exact sub_nil)); all_goals first | (intro p hp; simp only [List.mem_append, List.mem_cons, hp, true_or, or_true]) | simp only [List.mem_append, List.mem_cons, true_or, or_true]) (fun b => by simp only [keyc_append, keyc_cons, keyc_nil]; omega)
  have HFI := Lib.hid hH6
  have HFP : Hid (FrPlaces (H5 ++ Hp) (.slice A5 n c5) P) := Lib.hid ⟨E, HLE.out, fun wx hx => by rw [hlen]; exact hrow5.reads hx, fun e he => (HCE.out.2 e he).more⟩
  have hgf := (hG3.trans hg5).alloc (.cells #[.int .i64 size, .slice A5 n c5] 76)
  clear hH6 hH5 hH3 hrow5 hs
  go_wp2_with fail
  go_ret
  exact ⟨_, _, H5, rfl, HFP.out, HFI.out, hgf⟩
def AddrsTo (P : List PV) (w : World) (F : HL) (out i : Value) (wr : World) : Prop := ∃ (k : Nat) (Ho : HL), i = .int .i64 k ∧ k ≤ P.length ∧ IsWs out ((P.take k).map (·.a)) Ho ∧ Holds wr (Ho ++ F) ∧ Grew w wr
set_option maxRecDepth 20000 in
set_option maxHeartbeats 4000000 in
theorem r18addrs_any (b : Nat) (size : Int) (pv : Value) (P : List PV) (Hp Fr : HL) (w : World) (hl : FrPlaces Hp pv P) (hsm : P.length ≤ 10000) (hH : Holds w ((b, .cells #[.int .i64 size, pv] 76) :: (Hp ++ Fr))) :
    Calls Try.prog 27 #[.pointer (some ⟨b, 0, none⟩)] w (RetNew (fun v' H' => IsWs v' (P.map (·.a)) H') w ((b, .cells #[.int .i64 size, pv] 76) :: (Hp ++ Fr))) := by
  obtain ⟨E, hE, hE2⟩ := hl
  have HCE := Lib.hid hE2
  have HLE : Hid (E.map (·.2) = P) := Lib.hid hE
  have hlen : E.length = P.length := by rw [← hE, List.length_map]
  obtain ⟨A, c, hpv, hnc, hcm⟩ := hE2.1.val hH.tail
  rw [hlen] at hpv hnc
  subst hpv
  unfold maxLen at hcm
  have HSS : Hid (∀ (wx : World) (X F : HL), Holds wx (X ++ ((b, .cells #[.int .i64 size, .slice A P.length c] 76) :: F)) → wx.cell? ⟨b, 0, none⟩ = some (.int .i64 size) ∧ wx.cell? ⟨b, 1, none⟩ = some (.slice A P.length c)) := Lib.hid (fun wx X F h => ⟨h.right.hcell 0, h.right.hcell 1⟩)
  clear hE hE2
  go_enter Try.func27, Try.ntmps27
  go_wp2_with fail
  go_loopw [3, 4] (fun out i wr => AddrsTo P w ((b, .cells #[.int .i64 size, .slice A P.length c] 76) :: (Hp ++ Fr)) out i wr) (fun _ i _ => P.length - (intOf i).toNat)
  case atStart => exact ⟨0, [], rfl, by omega, IsRow.nil _ _, hH, Grew.refl w⟩
  case round =>
    clear hH
    obtain ⟨k, Ho, rfl, hk, hrow, hHr, hgr⟩ := hrel
    have HROW := Lib.hid hrow
    obtain ⟨Ao, co, hov⟩ := hrow.val
    subst hov
    have htl : ((P.take k).map (·.a)).length = k := by rw [List.length_map, List.length_take]; omega
    rw [htl] at HROW ⊢
    obtain ⟨s0, s1⟩ := HSS.out wr Ho _ hHr
    clear hrow
    by_cases hlt : k < P.length
    · have hkE : k < E.length := by omega
      obtain ⟨b1, o, c', hv, hc1, hc2, hcl⟩ := HCE.out.get hHr.right.tail k hkE
      rw [hlen] at hv
      injection hv with e1 e2 e3
      subst e1 e3
      clear e2
      obtain ⟨c0, _, _⟩ := hcl wr _ hHr.right.tail
      have hLk : E[k].2 = P[k] := by
        have : (E.map (·.2))[k]'(by simpa using hkE) = P[k] := by simp only [HLE.out]
        simpa using this
      rw [hLk] at c0
      have HT := Lib.hid (show (P.take (k + 1)).map (·.a) = (P.take k).map (·.a) ++ [P[k].a] by rw [List.take_succ_eq_append_getElem hlt, List.map_append]; rfl)
      generalize P[k].a = x at *
      have hsrc : ReadsAt (wr.alloc (.cells #[.int .u64 x] 26)) 1 (.slice (some ⟨wr.heap.size, 0, none⟩) 1 1) 1 [.int .u64 x] := ReadsAt.one
      have HSRC := Lib.hid hsrc
      have hH4 := Holds.swap (A := [_]) (hHr.alloc (.cells #[.int .u64 x] 26))
      have hg4 := hgr.alloc (.cells #[.int .u64 x] 26)
      clear hsrc hHr hgr hcl hLk
      go_wp2_with (at_builtin; refine wpList_append_T tWs (by rfl) (.tmp 14) (.tmp 23) (by rfl) (by rfl) (by rfl) HROW.out hH4 HSRC.out (by simp [Value.oneCell']) (by simp [maxLen]; omega) (by omega) ?_; intro A' c' w' H' hrow6 hH7 hg7)
      have HFIN := Lib.hid (show AddrsTo P w ((b, .cells #[.int .i64 size, .slice (some ⟨b1, o, none⟩) P.length c] 76) :: (Hp ++ Fr)) (.slice A' (k + 1) c') (.int .i64 ((k : Int) + 1)) w' from ⟨k + 1, H', by go_num, by omega, by
        have e : ((P.take k).map (·.a) ++ [x]).length = k + 1 := by rw [List.length_append, htl]; rfl
        unfold IsWs
        rw [HT.out, e, List.map_append]
        rw [htl] at hrow6
        exact hrow6, Holds.mid (B := [_]) hH7, hg4.trans hg7⟩)
      clear hrow6 hH7 hg7 hg4 hH4
      go_wp2_with fail
      go_roundw
      case rel => exact HFIN.out
      case measure => simp [intOf]; omega
    · have hk2 : k = P.length := by omega
      subst hk2
      go_wp2_with fail
      go_ret
      have h := HROW.out
      rw [List.take_length] at h
      exact ⟨_, Ho, rfl, h, hHr, hgr⟩
def mayP (P : List PV) : List Int := (P.filter fun p => decide (0 < (dirtyF p.l).length)).map (·.a)
def mustP (P : List PV) : List Int := (P.filter fun p => decide (0 < (dirtyF p.l).length) && (decide ((cleanF p.l).length = 0) && !p.n)).map (·.a)
theorem mayP_snoc {P : List PV} {k : Nat} (h : k < P.length) : mayP (P.take (k + 1)) = mayP (P.take k) ++ (if 0 < (dirtyF P[k].l).length then [P[k].a] else []) := by
  unfold mayP
  rw [List.take_succ_eq_append_getElem h, List.filter_append, List.map_append]
  by_cases hx : 0 < (dirtyF P[k].l).length <;> simp [hx]
theorem mustP_snoc {P : List PV} {k : Nat} (h : k < P.length) : mustP (P.take (k + 1)) = mustP (P.take k) ++ (if 0 < (dirtyF P[k].l).length ∧ (cleanF P[k].l).length = 0 ∧ P[k].n = false then [P[k].a] else []) := by
  unfold mustP
  rw [List.take_succ_eq_append_getElem h, List.filter_append, List.map_append]
  have hb : (decide (0 < (dirtyF P[k].l).length) && (decide ((cleanF P[k].l).length = 0) && !P[k].n)) = decide (0 < (dirtyF P[k].l).length ∧ (cleanF P[k].l).length = 0 ∧ P[k].n = false) := by
    rw [Bool.eq_iff_iff]
    simp only [Bool.and_eq_true, decide_eq_true_eq, Bool.not_eq_true']
  congr 1
  by_cases hc : 0 < (dirtyF P[k].l).length ∧ (cleanF P[k].l).length = 0 ∧ P[k].n = false
  · rw [if_pos hc, List.filter_cons_of_pos (by rw [hb]; exact decide_eq_true hc)]; rfl
  · rw [if_neg hc, List.filter_cons_of_neg (by rw [hb]; exact fun h => hc (of_decide_eq_true h))]; rfl
theorem mayP_len (P : List PV) : (mayP P).length ≤ P.length := by unfold mayP; rw [List.length_map]; exact List.length_filter_le _ _
theorem mustP_len (P : List PV) : (mustP P).length ≤ P.length := by unfold mustP; rw [List.length_map]; exact List.length_filter_le _ _
def DirtyTo (P : List PV) (w : World) (F : HL) (mu ma i : Value) (wr : World) : Prop := ∃ (k : Nat) (H1 H2 : HL), i = .int .i64 k ∧ k ≤ P.length ∧ IsWs mu (mustP (P.take k)) H1 ∧ IsWs ma (mayP (P.take k)) H2 ∧ Holds wr (H1 ++ (H2 ++ F)) ∧ Grew w wr
set_option maxRecDepth 20000 in
set_option maxHeartbeats 8000000 in
theorem r18dirty_any (b : Nat) (size : Int) (pv : Value) (P : List PV) (Hp Fr : HL) (w : World) (hl : FrPlaces Hp pv P) (hs : SmP P) (hH : Holds w ((b, .cells #[.int .i64 size, pv] 76) :: (Hp ++ Fr))) :
    Calls Try.prog 26 #[.pointer (some ⟨b, 0, none⟩)] w fun e w' => ∃ v1 v2 H1 H2, e = .returned (.tuple #[v1, v2]) ∧ IsWs v1 (mustP P) H1 ∧ IsWs v2 (mayP P) H2 ∧ Holds w' (H1 ++ (H2 ++ ((b, .cells #[.int .i64 size, pv] 76) :: (Hp ++ Fr)))) ∧ Grew w w' := by
  obtain ⟨E, hE, hE2⟩ := hl
  have HSL := Lib.hid hs
  have HCE := Lib.hid hE2
  have HLE : Hid (E.map (·.2) = P) := Lib.hid hE
  have hlen : E.length = P.length := by rw [← hE, List.length_map]
  obtain ⟨A, c, hpv, hnc, hcm⟩ := hE2.1.val hH.tail
  rw [hlen] at hpv hnc
  subst hpv
  unfold maxLen at hcm
  have HSS : Hid (∀ (wx : World) (X F : HL), Holds wx (X ++ ((b, .cells #[.int .i64 size, .slice A P.length c] 76) :: F)) → wx.cell? ⟨b, 0, none⟩ = some (.int .i64 size) ∧ wx.cell? ⟨b, 1, none⟩ = some (.slice A P.length c)) := Lib.hid (fun wx X F h => ⟨h.right.hcell 0, h.right.hcell 1⟩)
  have hpl := hs.1
  clear hE hE2 hs
  go_enter Try.func26, Try.ntmps26
  go_wp2_with fail
  go_loopw [4, 5, 6] (fun mu ma i wr => DirtyTo P w ((b, .cells #[.int .i64 size, .slice A P.length c] 76) :: (Hp ++ Fr)) mu ma i wr) (fun _ _ i _ => P.length - (intOf i).toNat)
  case atStart => exact ⟨0, [], [], rfl, by omega, IsRow.nil _ _, IsRow.nil _ _, hH, Grew.refl w⟩
  case round =>
    clear hH
    obtain ⟨k, H1, H2, rfl, hk, hr1, hr2, hHr, hgr⟩ := hrel
    have HR1 := Lib.hid hr1
    have HR2 := Lib.hid hr2
    obtain ⟨Au, cu, hov⟩ := hr1.val
    subst hov
    obtain ⟨Am, cm, hov⟩ := hr2.val
    subst hov
    have hmu := mustP_len (P.take k)
    have hma := mayP_len (P.take k)
    rw [List.length_take] at hmu hma
    have hr1' := hr1
    have hr2' := hr2
    unfold IsWs at hr1' hr2'
    generalize hnu : (mustP (P.take k)).length = nu at *
    generalize hnm : (mayP (P.take k)).length = nm at *
    have HW1 := Lib.hid hr1'
    have HW2 := Lib.hid hr2'
    have HNU := Lib.hid hnu
    have HNM := Lib.hid hnm
    obtain ⟨s0, s1⟩ := HSS.out wr (H1 ++ H2) _ (by simpa using hHr)
    clear hr1 hr2 hr1' hr2' hnu hnm
    by_cases hlt : k < P.length
    · have hkE : k < E.length := by omega
      obtain ⟨b1, o, c', hv, hc1, hc2, hcl⟩ := HCE.out.get (w := wr) (Fr := Fr) hHr.right.right.tail k hkE
      rw [hlen] at hv
      injection hv with e1 e2 e3
      subst e1 e3
      clear e2
      have hLk : E[k].2 = P[k] := by
        have : (E.map (·.2))[k]'(by simpa using hkE) = P[k] := by simp only [HLE.out]
        simpa using this
      have hfb := HCE.out.2 E[k] (List.getElem_mem hkE)
      rw [hLk] at hfb hcl
      have HFB := Lib.hid hfb
      have HPL := Lib.hid (HSL.out.2 P[k] (List.getElem_mem hlt))
      obtain ⟨Ax, cx, hxv, _, _⟩ := hfb.sl (Fr := Fr) hHr.right.right.tail
      rw [hxv] at HFB hcl
      have HT1 := Lib.hid (mayP_snoc hlt)
      have HT2 := Lib.hid (mustP_snoc hlt)
      have HCL : Hid (∀ (wx : World) (X : HL), Holds wx (X ++ ((b, .cells #[.int .i64 size, .slice (some ⟨b1, o, none⟩) P.length c] 76) :: (Hp ++ Fr))) → _) := Lib.hid (fun wx X h => hcl wx Fr h.right.tail)
      generalize P[k] = p at *
      obtain ⟨x, n, l⟩ := p
      dsimp only at HFB HCL HT1 HT2 HPL
      obtain ⟨c0, c1, c2x⟩ := HCL.out wr (H1 ++ H2) (by simpa using hHr)
      have HDC := Lib.hid (r18dirties_any ⟨x, n, l⟩ (.slice Ax l.length cx) Hp ((b, .cells #[.int .i64 size, .slice (some ⟨b1, o, none⟩) P.length c] 76) :: (Fr ++ (H1 ++ H2))) wr HFB.out (by have := HPL.out.1; dsimp only; omega) (by
        have h : Holds wr (Hp ++ ((b, .cells #[.int .i64 size, .slice (some ⟨b1, o, none⟩) P.length c] 76) :: (Fr ++ (H1 ++ H2)))) := hHr.sub (by (repeat' (first | refine sub_append ?_ ?_ | refine sub_cons ?_ ?_ | exact sub_nil)); all_goals first | (intro p hp; simp only [List.mem_append, List.mem_cons, hp, true_or, or_true]) | simp only [List.mem_append, List.mem_cons, true_or, or_true]) (fun b => by simp only [keyc_append, keyc_cons, keyc_nil]; omega)
        exact h))
      dsimp only [PV.agg] at HDC
      clear hcl hfb hxv hLk hHr
      go_wp2_with fail
      refine HDC.out.mono ?_
      rintro e w2 ⟨l1, l2, Hn, rfl, hf1, hf2, hH2, hg2⟩
      obtain ⟨A1, c1x, hv1, _, _⟩ := hf1.sl hH2
      obtain ⟨A2, c2, hv2, _, _⟩ := hf2.sl hH2
      subst hv1 hv2
      generalize hdn : (dirtyF l).length = dn at *
      generalize hcn : (cleanF l).length = cn at *
      have hH3 : Holds (w2.alloc (.cells #[.int .u64 x, .bool n, .slice A2 cn c2] 79)) ((H1 ++ (H2 ++ [(w2.heap.size, (.cells #[.int .u64 x, .bool n, .slice A2 cn c2] 79))])) ++ ((b, .cells #[.int .i64 size, .slice (some ⟨b1, o, none⟩) P.length c] 76) :: (Hp ++ Fr))) := by
        have h2 : Holds w2 (Hn ++ ((Hp ++ ((b, .cells #[.int .i64 size, .slice (some ⟨b1, o, none⟩) P.length c] 76) :: (Fr ++ (H1 ++ H2)))))) := by simpa using hH2
        exact (h2.right.alloc (.cells #[.int .u64 x, .bool n, .slice A2 cn c2] 79)).sub (by (repeat' (first | refine sub_append ?_ ?_ | refine sub_cons ?_ ?_ | exact sub_nil)); all_goals first | (intro p hp; simp only [List.mem_append, List.mem_cons, hp, true_or, or_true]) | simp only [List.mem_append, List.mem_cons, true_or, or_true]) (fun b => by simp only [keyc_append, keyc_cons, keyc_nil]; omega)
      have hg3 := (hgr.trans hg2).alloc (.cells #[.int .u64 x, .bool n, .slice A2 cn c2] 79)
      have HDN := Lib.hid hdn
      have HCN := Lib.hid hcn
      obtain ⟨_, s1⟩ := HSS.out (w2.alloc (.cells #[.int .u64 x, .bool n, .slice A2 cn c2] 79)) _ _ hH3
      have HB : Hid (∀ (wx : World) (X : HL), Holds wx ((X ++ [(w2.heap.size, (.cells #[.int .u64 x, .bool n, .slice A2 cn c2] 79))]) ++ ((b, .cells #[.int .i64 size, .slice (some ⟨b1, o, none⟩) P.length c] 76) :: (Hp ++ Fr))) → wx.cell? ⟨w2.heap.size, 1, none⟩ = some (.bool n) ∧ wx.cell? ⟨w2.heap.size, 2, none⟩ = some (.slice A2 cn c2) ∧ wx.cell? ⟨b, 1, none⟩ = some (.slice (some ⟨b1, o, none⟩) P.length c) ∧ wx.cell? ⟨b1, o + k * 3, none⟩ = some (.int .u64 x)) := Lib.hid (fun wx X h => by
        have h2 : Holds wx (X ++ ((w2.heap.size, (.cells #[.int .u64 x, .bool n, .slice A2 cn c2] 79)) :: ((b, .cells #[.int .i64 size, .slice (some ⟨b1, o, none⟩) P.length c] 76) :: (Hp ++ Fr)))) := by simpa using h
        exact ⟨h2.right.hcell 1, h2.right.hcell 2, (HSS.out wx _ _ h).2, (HCL.out wx _ h).1⟩)
      obtain ⟨t1, t2, t3, t4⟩ := HB.out (w2.alloc (.cells #[.int .u64 x, .bool n, .slice A2 cn c2] 79)) (H1 ++ H2) (by simpa using hH3)
      have HH3 := Lib.hid hH3
      clear hf1 hf2 hH2 hg2 hgr HDC hdn hcn c0 c1 c2x s0 hH3
      by_cases hd0 : dn = 0
      · have HM1 := Lib.hid (HT1.out.trans (by rw [if_neg (by omega), List.append_nil]))
        have HM2 := Lib.hid (HT2.out.trans (by rw [if_neg (by omega), List.append_nil]))
        have hd0i : (dn : Int) = 0 := by omega
        have HFIN := Lib.hid (show DirtyTo P w ((b, .cells #[.int .i64 size, .slice (some ⟨b1, o, none⟩) P.length c] 76) :: (Hp ++ Fr)) (.slice Au nu cu) (.slice Am nm cm) (.int .i64 ((k : Int) + 1)) (w2.alloc (.cells #[.int .u64 x, .bool n, .slice A2 cn c2] 79)) from ⟨k + 1, H1, H2, by go_num, by omega, by rw [HM2.out]; exact HR1.out, by rw [HM1.out]; exact HR2.out, by
          have h : Holds (w2.alloc (.cells #[.int .u64 x, .bool n, .slice A2 cn c2] 79)) ((H1 ++ H2) ++ ([(w2.heap.size, (.cells #[.int .u64 x, .bool n, .slice A2 cn c2] 79))] ++ ((b, .cells #[.int .i64 size, .slice (some ⟨b1, o, none⟩) P.length c] 76) :: (Hp ++ Fr)))) := by simpa using HH3.out
          simpa using h.mid, hg3⟩)
        go_wp2_with fail
        go_roundw
        case rel => exact HFIN.out
        case measure => simp [intOf]; omega
      · have hd1 : (0 : Int) < dn := by omega
        have HM1 := Lib.hid (HT1.out.trans (by rw [if_pos (by omega)]))
        have HM2 := Lib.hid (fun (hc : cn = 0) (hn : n = false) => HT2.out.trans (by rw [if_pos ⟨by omega, hc, hn⟩]))
        have HM3 := Lib.hid (fun (hc : ¬ (cn = 0 ∧ n = false)) => HT2.out.trans (by rw [if_neg (fun h => hc h.2), List.append_nil]))
        clear HT1 HT2 hd0
        go_upto_if 31 with fail
        generalize w2.alloc (.cells #[.int .u64 x, .bool n, .slice A2 cn c2] 79) = wq at *
        generalize w2.heap.size = gq at *
        have hs1 : Holds (wq.alloc (.cells #[.int .u64 x] 26)) (H2 ++ ((wq.heap.size, (.cells #[.int .u64 x] 26)) :: (H1 ++ ((gq, (.cells #[.int .u64 x, .bool n, .slice A2 cn c2] 79)) :: ((b, .cells #[.int .i64 size, .slice (some ⟨b1, o, none⟩) P.length c] 76) :: (Hp ++ Fr)))))) := (HH3.out.alloc (.cells #[.int .u64 x] 26)).sub (by (repeat' (first | refine sub_append ?_ ?_ | refine sub_cons ?_ ?_ | exact sub_nil)); all_goals first | (intro p hp; simp only [List.mem_append, List.mem_cons, hp, true_or, or_true]) | simp only [List.mem_append, List.mem_cons, true_or, or_true]) (fun b => by simp only [keyc_append, keyc_cons, keyc_nil]; omega)
        have hg4 := hg3.alloc (.cells #[.int .u64 x] 26)
        have HSRC := Lib.hid (ReadsAt.of_block (n := 1) (c := 1) (o := 0) (size := 1) (hs1.get (b := wq.heap.size) (o := (.cells #[.int .u64 x] 26)) (by simp)) [.int .u64 x] rfl (by omega) (by simp [maxLen]) (by intro j u hu; simpa using hu))
        have HPM : Hid (∀ (wx : World) (Hx : HL) (gz : Nat), Holds wx (Hx ++ ((gz, (.cells #[.int .u64 x] 26)) :: (H1 ++ ((gq, (.cells #[.int .u64 x, .bool n, .slice A2 cn c2] 79)) :: ((b, .cells #[.int .i64 size, .slice (some ⟨b1, o, none⟩) P.length c] 76) :: (Hp ++ Fr)))))) → Holds wx (((H1 ++ Hx) ++ [(gq, (.cells #[.int .u64 x, .bool n, .slice A2 cn c2] 79))]) ++ ((b, .cells #[.int .i64 size, .slice (some ⟨b1, o, none⟩) P.length c] 76) :: (Hp ++ Fr)))) := Lib.hid (fun wx Hx gz h => by
          have h2 : Holds wx (Hx ++ (H1 ++ ((gq, (.cells #[.int .u64 x, .bool n, .slice A2 cn c2] 79)) :: ((b, .cells #[.int .i64 size, .slice (some ⟨b1, o, none⟩) P.length c] 76) :: (Hp ++ Fr))))) := Holds.mid (B := [_]) h
          exact h2.sub (by (repeat' (first | refine sub_append ?_ ?_ | refine sub_cons ?_ ?_ | exact sub_nil)); all_goals first | (intro p hp; simp only [List.mem_append, List.mem_cons, hp, true_or, or_true]) | simp only [List.mem_append, List.mem_cons, true_or, or_true]) (fun b => by simp only [keyc_append, keyc_cons, keyc_nil]; omega))
        have HP2 : Hid (∀ (wx : World) (Hx : HL), Holds wx (((H1 ++ Hx) ++ [(gq, (.cells #[.int .u64 x, .bool n, .slice A2 cn c2] 79))]) ++ ((b, .cells #[.int .i64 size, .slice (some ⟨b1, o, none⟩) P.length c] 76) :: (Hp ++ Fr))) → Holds (wx.alloc (.cells #[.int .u64 x] 26)) (H1 ++ ((wx.heap.size, (.cells #[.int .u64 x] 26)) :: (Hx ++ ((gq, (.cells #[.int .u64 x, .bool n, .slice A2 cn c2] 79)) :: ((b, .cells #[.int .i64 size, .slice (some ⟨b1, o, none⟩) P.length c] 76) :: (Hp ++ Fr))))))) := Lib.hid (fun wx Hx h => (h.alloc (.cells #[.int .u64 x] 26)).sub (by (repeat' (first | refine sub_append ?_ ?_ | refine sub_cons ?_ ?_ | exact sub_nil)); all_goals first | (intro p hp; simp only [List.mem_append, List.mem_cons, hp, true_or, or_true]) | simp only [List.mem_append, List.mem_cons, true_or, or_true]) (fun b => by simp only [keyc_append, keyc_cons, keyc_nil]; omega))
        have HP3 : Hid (∀ (wx : World) (Hy Hx : HL) (gz : Nat), Holds wx (Hy ++ ((gz, (.cells #[.int .u64 x] 26)) :: (Hx ++ ((gq, (.cells #[.int .u64 x, .bool n, .slice A2 cn c2] 79)) :: ((b, .cells #[.int .i64 size, .slice (some ⟨b1, o, none⟩) P.length c] 76) :: (Hp ++ Fr)))))) → Holds wx (Hy ++ (Hx ++ ((b, .cells #[.int .i64 size, .slice (some ⟨b1, o, none⟩) P.length c] 76) :: (Hp ++ Fr))))) := Lib.hid (fun wx Hy Hx gz h => by
          have h2 : Holds wx (Hy ++ (Hx ++ ((gq, (.cells #[.int .u64 x, .bool n, .slice A2 cn c2] 79)) :: ((b, .cells #[.int .i64 size, .slice (some ⟨b1, o, none⟩) P.length c] 76) :: (Hp ++ Fr))))) := Holds.mid (B := [_]) h
          have h3 : Holds wx ((Hy ++ Hx) ++ ([(gq, (.cells #[.int .u64 x, .bool n, .slice A2 cn c2] 79))] ++ ((b, .cells #[.int .i64 size, .slice (some ⟨b1, o, none⟩) P.length c] 76) :: (Hp ++ Fr)))) := by simpa using h2
          simpa using h3.mid)
        have HP4 : Hid (∀ (wx : World) (Hx : HL), Holds wx (((H1 ++ Hx) ++ [(gq, (.cells #[.int .u64 x, .bool n, .slice A2 cn c2] 79))]) ++ ((b, .cells #[.int .i64 size, .slice (some ⟨b1, o, none⟩) P.length c] 76) :: (Hp ++ Fr))) → Holds wx (H1 ++ (Hx ++ ((b, .cells #[.int .i64 size, .slice (some ⟨b1, o, none⟩) P.length c] 76) :: (Hp ++ Fr))))) := Lib.hid (fun wx Hx h => by
          have h3 : Holds wx ((H1 ++ Hx) ++ ([(gq, (.cells #[.int .u64 x, .bool n, .slice A2 cn c2] 79))] ++ ((b, .cells #[.int .i64 size, .slice (some ⟨b1, o, none⟩) P.length c] 76) :: (Hp ++ Fr)))) := by simpa using h
          simpa using h3.mid)
        by_cases hc0 : cn = 0
        · have hc0i : (cn : Int) = 0 := by omega
          cases n with
          | false =>
            have HM4 := Lib.hid (HM2.out hc0 rfl)
            clear HM2 HM3
            go_wp2_with (first
              | (at_builtin; refine wpList_append_T tWs (by rfl) (.tmp 32) (.tmp 41) (by rfl) (by rfl) (by rfl) HW2.out hs1 HSRC.out (by simp [Value.oneCell']) (by simp [maxLen]; omega) (by omega) ?_; intro A3 c3 w3 H3 hrow3 hH5 hg5; have hH6 := HPM.out w3 H3 _ hH5; have HR3 := Lib.hid hrow3; clear t1 t2 t3 t4 s1 hs1 hrow3 HSRC; obtain ⟨t1, t2, t3, t4⟩ := HB.out w3 (H1 ++ H3) hH6)
              | (at_builtin; have hs2 := HP2.out w3 H3 hH6; have HSRC2 := Lib.hid (ReadsAt.of_block (n := 1) (c := 1) (o := 0) (size := 1) (hs2.get (b := w3.heap.size) (o := (.cells #[.int .u64 x] 26)) (by simp)) [.int .u64 x] rfl (by omega) (by simp [maxLen]) (by intro j u hu; simpa using hu)); refine wpList_append_T tWs (by rfl) (.tmp 52) (.tmp 61) (by rfl) (by rfl) (by rfl) HW1.out hs2 HSRC2.out (by simp [Value.oneCell']) (by simp [maxLen]; omega) (by omega) ?_; intro A4 c4 w4 H4 hrow4 hH7 hg7))
            have HFIN := Lib.hid (show DirtyTo P w ((b, .cells #[.int .i64 size, .slice (some ⟨b1, o, none⟩) P.length c] 76) :: (Hp ++ Fr)) (.slice A4 (nu + 1) c4) (.slice A3 (nm + 1) c3) (.int .i64 ((k : Int) + 1)) w4 from ⟨k + 1, H4, H3, by go_num, by omega, by
              unfold IsWs; rw [HM4.out, List.length_append, List.map_append, HNU.out]; exact hrow4, by
              unfold IsWs; rw [HM1.out, List.length_append, List.map_append, HNM.out]; exact HR3.out, HP3.out w4 H4 H3 _ hH7, ((hg4.trans hg5).alloc (.cells #[.int .u64 x] 26)).trans hg7⟩)
            clear hrow4 hH7 hH6 hH5
            go_wp2_with fail
            go_roundw
            case rel => exact HFIN.out
            case measure => simp [intOf]; omega
          | true =>
            have HM4 := Lib.hid (HM3.out (fun h => by cases h.2))
            clear HM2 HM3
            go_wp2_with (at_builtin; refine wpList_append_T tWs (by rfl) (.tmp 32) (.tmp 41) (by rfl) (by rfl) (by rfl) HW2.out hs1 HSRC.out (by simp [Value.oneCell']) (by simp [maxLen]; omega) (by omega) ?_; intro A3 c3 w3 H3 hrow3 hH5 hg5; have hH6 := HPM.out w3 H3 _ hH5; have HR3 := Lib.hid hrow3; clear t1 t2 t3 t4 s1 hs1 hrow3 HSRC; obtain ⟨t1, t2, t3, t4⟩ := HB.out w3 (H1 ++ H3) hH6)
            have HFIN := Lib.hid (show DirtyTo P w ((b, .cells #[.int .i64 size, .slice (some ⟨b1, o, none⟩) P.length c] 76) :: (Hp ++ Fr)) (.slice Au nu cu) (.slice A3 (nm + 1) c3) (.int .i64 ((k : Int) + 1)) w3 from ⟨k + 1, H1, H3, by go_num, by omega, by rw [HM4.out]; exact HR1.out, by
              unfold IsWs; rw [HM1.out, List.length_append, List.map_append, HNM.out]; exact HR3.out, HP4.out w3 H3 hH6, hg4.trans hg5⟩)
            clear hH6 hH5
            go_wp2_with fail
            go_roundw
            case rel => exact HFIN.out
            case measure => simp [intOf]; omega
        · have hc0i : ¬ (cn : Int) = 0 := by omega
          have HM4 := Lib.hid (HM3.out (fun h => hc0 h.1))
          clear HM2 HM3
          go_wp2_with (at_builtin; refine wpList_append_T tWs (by rfl) (.tmp 32) (.tmp 41) (by rfl) (by rfl) (by rfl) HW2.out hs1 HSRC.out (by simp [Value.oneCell']) (by simp [maxLen]; omega) (by omega) ?_; intro A3 c3 w3 H3 hrow3 hH5 hg5; have hH6 := HPM.out w3 H3 _ hH5; have HR3 := Lib.hid hrow3; clear t1 t2 t3 t4 s1 hs1 hrow3 HSRC; obtain ⟨t1, t2, t3, t4⟩ := HB.out w3 (H1 ++ H3) hH6)
          have HFIN := Lib.hid (show DirtyTo P w ((b, .cells #[.int .i64 size, .slice (some ⟨b1, o, none⟩) P.length c] 76) :: (Hp ++ Fr)) (.slice Au nu cu) (.slice A3 (nm + 1) c3) (.int .i64 ((k : Int) + 1)) w3 from ⟨k + 1, H1, H3, by go_num, by omega, by rw [HM4.out]; exact HR1.out, by
            unfold IsWs; rw [HM1.out, List.length_append, List.map_append, HNM.out]; exact HR3.out, HP4.out w3 H3 hH6, hg4.trans hg5⟩)
          clear hH6 hH5
          go_wp2_with fail
          go_roundw
          case rel => exact HFIN.out
          case measure => simp [intOf]; omega
    · have hk2 : k = P.length := by omega
      subst hk2
      rw [List.take_length] at HR1 HR2
      go_wp2_with fail
      go_ret2
      exact ⟨_, _, H1, H2, rfl, HR1.out, HR2.out, hHr, hgr⟩
end Go.Proofs.Ytinfbpldgobmfaa
