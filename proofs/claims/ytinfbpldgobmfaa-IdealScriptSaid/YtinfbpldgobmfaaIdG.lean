/-
  Package ideal: May, reply, Take (but for lists).
-/
import Derived.Test.YtinfbpldgobmfaaIdF
namespace Go.Proofs.Ytinfbpldgobmfaa
open Go.RowKit
set_option linter.unusedSimpArgs false
set_option linter.unusedVariables false

def mayB (size k : Int) (n : Nat) (m : Int) : Bool :=
  if k = 1 ∨ k = 2 then decide ((n : Int) = size) && decide (m = 0) else if k = 6 then decide (n = 0) && decide (0 ≤ m) && decide (m ≤ 64) else if k = 3 ∨ k = 4 ∨ k = 5 then decide (n = 0) && decide (m = 0) else false
set_option maxRecDepth 20000 in
set_option maxHeartbeats 1000000 in
theorem idmay_any (b : Nat) (size k a : Int) (A : Option Addr) (n c : Nat) (m : Int) (w : World) (hc : w.cell? ⟨b, 0, none⟩ = some (.int .i64 size)) :
    Calls Try.prog 24 #[.pointer (some ⟨b, 0, none⟩), .agg #[.int .i64 k, .int .u64 a, .slice A n c, .int .i64 m]] w fun e w' => e = .returned (.bool (mayB size k n m)) ∧ w' = w.alloc (.cells #[.int .i64 k, .int .u64 a, .slice A n c, .int .i64 m] 31) := by
  have hlt := World.block_lt_of_cell? w _ hc
  have hc2 : (w.alloc (.cells #[.int .i64 k, .int .u64 a, .slice A n c, .int .i64 m] 31)).cell? ⟨b, 0, none⟩ = some (.int .i64 size) := by rw [World.cell?_alloc_lt w _ _ hlt]; exact hc
  have hne : b ≠ w.heap.size := by simp only at hlt; omega
  clear hc hlt
  by_cases h1 : k = 1 ∨ k = 2
  · have HE := Lib.hid (show mayB size k n m = (decide ((n : Int) = size) && decide (m = 0)) from if_pos h1)
    by_cases hn : (n : Int) = size
    · by_cases hm : m = 0
      · have HE2 := Lib.hid (show mayB size k n m = true by rw [HE.out, decide_eq_true hn, decide_eq_true hm]; rfl)
        rw [HE2.out]
        clear HE HE2
        subst hn
        try subst hm
        rcases h1 with rfl | rfl
        all_goals
          go_enter Try.func24, Try.ntmps24
          go_wp2_with fail
          go_ret
          exact ⟨ret_b (by first | rfl | (simp; done) | (simp; omega) | simp_all), rfl⟩
      · have HE2 := Lib.hid (show mayB size k n m = false by rw [HE.out, decide_eq_false hm, Bool.and_false])
        rw [HE2.out]
        clear HE HE2
        subst hn
        try subst hm
        rcases h1 with rfl | rfl
        all_goals
          go_enter Try.func24, Try.ntmps24
          go_wp2_with fail
          go_ret
          exact ⟨ret_b (by first | rfl | (simp; done) | (simp; omega) | simp_all), rfl⟩
    · have HE2 := Lib.hid (show mayB size k n m = false by rw [HE.out, decide_eq_false hn]; rfl)
      rw [HE2.out]
      rcases h1 with rfl | rfl
      all_goals
        go_enter Try.func24, Try.ntmps24
        go_wp2_with fail
        go_ret
        exact ⟨ret_b (by first | rfl | (simp; done) | (simp; omega) | simp_all), rfl⟩
  by_cases h6 : k = 6
  · have HE := Lib.hid (show mayB size k n m = (decide (n = 0) && decide (0 ≤ m) && decide (m ≤ 64)) by unfold mayB; rw [if_neg h1, if_pos h6])
    subst h6
    clear h1
    by_cases hn : n = 0
    · subst hn
      by_cases hm : 0 ≤ m
      · by_cases hm2 : m ≤ 64
        · have HE2 := Lib.hid (show mayB size 6 0 m = true by rw [HE.out, decide_eq_true rfl, decide_eq_true hm, decide_eq_true hm2]; rfl)
          rw [HE2.out]
          go_enter Try.func24, Try.ntmps24
          go_wp2_with fail
          go_ret
          exact ⟨ret_b (by first | rfl | (simp; done) | (simp; omega) | simp_all), rfl⟩
        · have HE2 := Lib.hid (show mayB size 6 0 m = false by rw [HE.out, decide_eq_false hm2, Bool.and_false])
          rw [HE2.out]
          go_enter Try.func24, Try.ntmps24
          go_wp2_with fail
          go_ret
          exact ⟨ret_b (by first | rfl | (simp; done) | (simp; omega) | simp_all), rfl⟩
      · have HE2 := Lib.hid (show mayB size 6 0 m = false by rw [HE.out, decide_eq_false hm, Bool.and_false, Bool.false_and])
        rw [HE2.out]
        go_enter Try.func24, Try.ntmps24
        go_wp2_with fail
        go_ret
        exact ⟨ret_b (by first | rfl | (simp; done) | (simp; omega) | simp_all), rfl⟩
    · have HE2 := Lib.hid (show mayB size 6 n m = false by rw [HE.out, decide_eq_false hn]; rfl)
      rw [HE2.out]
      go_enter Try.func24, Try.ntmps24
      go_wp2_with fail
      go_ret
      exact ⟨ret_b (by first | rfl | (simp; done) | (simp; omega) | simp_all), rfl⟩
  by_cases h3 : k = 3 ∨ k = 4 ∨ k = 5
  · have HE := Lib.hid (show mayB size k n m = (decide (n = 0) && decide (m = 0)) by unfold mayB; rw [if_neg h1, if_neg h6, if_pos h3])
    clear h1 h6
    by_cases hn : n = 0
    · subst hn
      by_cases hm : m = 0
      · have HE2 := Lib.hid (show mayB size k 0 m = true by rw [HE.out, decide_eq_true rfl, decide_eq_true hm]; rfl)
        rw [HE2.out]
        clear HE HE2
        try subst hm
        rcases h3 with rfl | rfl | rfl
        all_goals
          go_enter Try.func24, Try.ntmps24
          go_wp2_with fail
          go_ret
          exact ⟨ret_b (by first | rfl | (simp; done) | (simp; omega) | simp_all), rfl⟩
      · have HE2 := Lib.hid (show mayB size k 0 m = false by rw [HE.out, decide_eq_false hm, Bool.and_false])
        rw [HE2.out]
        clear HE HE2
        try subst hm
        rcases h3 with rfl | rfl | rfl
        all_goals
          go_enter Try.func24, Try.ntmps24
          go_wp2_with fail
          go_ret
          exact ⟨ret_b (by first | rfl | (simp; done) | (simp; omega) | simp_all), rfl⟩
    · have HE2 := Lib.hid (show mayB size k n m = false by rw [HE.out, decide_eq_false hn]; rfl)
      rw [HE2.out]
      rcases h3 with rfl | rfl | rfl
      all_goals
        go_enter Try.func24, Try.ntmps24
        go_wp2_with fail
        go_ret
        exact ⟨ret_b (by first | rfl | (simp; done) | (simp; omega) | simp_all), rfl⟩
  · have HE2 := Lib.hid (show mayB size k n m = false by unfold mayB; rw [if_neg h1, if_neg h6, if_neg h3])
    rw [HE2.out]
    have k1 : ¬ k = 1 := fun e => h1 (.inl e)
    have k2 : ¬ k = 2 := fun e => h1 (.inr e)
    have k3 : ¬ k = 3 := fun e => h3 (.inl e)
    have k4 : ¬ k = 4 := fun e => h3 (.inr (.inl e))
    have k5 : ¬ k = 5 := fun e => h3 (.inr (.inr e))
    clear h1 h3 hc2
    go_enter Try.func24, Try.ntmps24
    go_wp2_with fail
    go_ret
    exact ⟨ret_b (by first | rfl | (simp; done) | (simp; omega) | simp_all), rfl⟩
theorem idmay_nil (k a : Int) (dv : Value) (m : Int) (w : World) : Calls Try.prog 24 #[.pointer none, .agg #[.int .i64 k, .int .u64 a, dv, .int .i64 m]] w fun e w' => e = .returned (.bool false) ∧ w' = w.alloc (.cells #[.int .i64 k, .int .u64 a, dv, .int .i64 m] 31) := by
  go_enter Try.func24, Try.ntmps24
  go_wp2_with fail
  go_ret
  exact ⟨rfl, rfl⟩

/-! ### replies -/
def repB (rk rc : Int) (n : Nat) (y : Bool) (z : Nat) : Bool :=
  if rk = 1 then decide (rc = 0) && (decide (n = 0) && (!y && decide (z = 0)))
  else if rk = 2 then decide (rc = 0) && decide (z = 0)
  else if rk = 3 then decide (rc = 0) && (decide (n = 0) && !y)
  else if rk = 4 then decide (n = 0) && (!y && decide (z = 0))
  else false
set_option maxRecDepth 20000 in
set_option maxHeartbeats 2000000 in
theorem idreply_any (rk rc : Int) (A : Option Addr) (n c : Nat) (y : Bool) (Z : Option Addr) (z cz : Nat) (w : World) :
    Calls Try.prog 29 #[.agg #[.int .i64 rk, .int .i64 rc, .slice A n c, .bool y, .slice Z z cz]] w fun e w' => e = .returned (.bool (repB rk rc n y z)) ∧ w' = w.alloc (.cells #[.int .i64 rk, .int .i64 rc, .slice A n c, .bool y, .slice Z z cz] 34) := by
  have key : ∀ r : Bool, repB rk rc n y z = r → Calls Try.prog 29 #[.agg #[.int .i64 rk, .int .i64 rc, .slice A n c, .bool y, .slice Z z cz]] w (fun e w' => e = .returned (.bool r) ∧ w' = w.alloc (.cells #[.int .i64 rk, .int .i64 rc, .slice A n c, .bool y, .slice Z z cz] 34)) → Calls Try.prog 29 #[.agg #[.int .i64 rk, .int .i64 rc, .slice A n c, .bool y, .slice Z z cz]] w (fun e w' => e = .returned (.bool (repB rk rc n y z)) ∧ w' = w.alloc (.cells #[.int .i64 rk, .int .i64 rc, .slice A n c, .bool y, .slice Z z cz] 34)) := fun r e h => by rw [e]; exact h
  by_cases h1 : rk = 1
  · subst h1
    by_cases hc : rc = 0
    · subst hc
      by_cases hn : n = 0
      · subst hn
        cases y with
        | false =>
          by_cases hz : z = 0
          · subst hz
            refine key true (by simp [repB]) ?_
            go_enter Try.func29, Try.ntmps29
            go_wp2_with fail
            go_ret
            exact ⟨ret_b (by first | rfl | (simp; done) | (simp; omega) | simp_all), rfl⟩
          · refine key false (by simp [repB, hz]) ?_
            go_enter Try.func29, Try.ntmps29
            go_wp2_with fail
            go_ret
            exact ⟨ret_b (by first | rfl | (simp; done) | (simp; omega) | simp_all), rfl⟩
        | true =>
          refine key false (by simp [repB]) ?_
          go_enter Try.func29, Try.ntmps29
          go_wp2_with fail
          go_ret
          exact ⟨ret_b (by first | rfl | (simp; done) | (simp; omega) | simp_all), rfl⟩
      · refine key false (by simp [repB, hn]) ?_
        go_enter Try.func29, Try.ntmps29
        go_wp2_with fail
        go_ret
        exact ⟨ret_b (by first | rfl | (simp; done) | (simp; omega) | simp_all), rfl⟩
    · refine key false (by simp [repB, hc]) ?_
      go_enter Try.func29, Try.ntmps29
      go_wp2_with fail
      go_ret
      exact ⟨ret_b (by first | rfl | (simp; done) | (simp; omega) | simp_all), rfl⟩
  by_cases h2 : rk = 2
  · subst h2
    by_cases hc : rc = 0
    · subst hc
      by_cases hz : z = 0
      · subst hz
        refine key true (by simp [repB]) ?_
        go_enter Try.func29, Try.ntmps29
        go_wp2_with fail
        go_ret
        exact ⟨ret_b (by first | rfl | (simp; done) | (simp; omega) | simp_all), rfl⟩
      · refine key false (by simp [repB, hz]) ?_
        go_enter Try.func29, Try.ntmps29
        go_wp2_with fail
        go_ret
        exact ⟨ret_b (by first | rfl | (simp; done) | (simp; omega) | simp_all), rfl⟩
    · refine key false (by simp [repB, hc]) ?_
      go_enter Try.func29, Try.ntmps29
      go_wp2_with fail
      go_ret
      exact ⟨ret_b (by first | rfl | (simp; done) | (simp; omega) | simp_all), rfl⟩
  by_cases h3 : rk = 3
  · subst h3
    by_cases hc : rc = 0
    · subst hc
      by_cases hn : n = 0
      · subst hn
        cases y with
        | false =>
          refine key true (by simp [repB]) ?_
          go_enter Try.func29, Try.ntmps29
          go_wp2_with fail
          go_ret
          exact ⟨ret_b (by first | rfl | (simp; done) | (simp; omega) | simp_all), rfl⟩
        | true =>
          refine key false (by simp [repB]) ?_
          go_enter Try.func29, Try.ntmps29
          go_wp2_with fail
          go_ret
          exact ⟨ret_b (by first | rfl | (simp; done) | (simp; omega) | simp_all), rfl⟩
      · refine key false (by simp [repB, hn]) ?_
        go_enter Try.func29, Try.ntmps29
        go_wp2_with fail
        go_ret
        exact ⟨ret_b (by first | rfl | (simp; done) | (simp; omega) | simp_all), rfl⟩
    · refine key false (by simp [repB, hc]) ?_
      go_enter Try.func29, Try.ntmps29
      go_wp2_with fail
      go_ret
      exact ⟨ret_b (by first | rfl | (simp; done) | (simp; omega) | simp_all), rfl⟩
  by_cases h4 : rk = 4
  · subst h4
    by_cases hn : n = 0
    · subst hn
      cases y with
      | false =>
        by_cases hz : z = 0
        · subst hz
          refine key true (by simp [repB]) ?_
          go_enter Try.func29, Try.ntmps29
          go_wp2_with fail
          go_ret
          exact ⟨ret_b (by first | rfl | (simp; done) | (simp; omega) | simp_all), rfl⟩
        · refine key false (by simp [repB, hz]) ?_
          go_enter Try.func29, Try.ntmps29
          go_wp2_with fail
          go_ret
          exact ⟨ret_b (by first | rfl | (simp; done) | (simp; omega) | simp_all), rfl⟩
      | true =>
        refine key false (by simp [repB]) ?_
        go_enter Try.func29, Try.ntmps29
        go_wp2_with fail
        go_ret
        exact ⟨ret_b (by first | rfl | (simp; done) | (simp; omega) | simp_all), rfl⟩
    · refine key false (by simp [repB, hn]) ?_
      go_enter Try.func29, Try.ntmps29
      go_wp2_with fail
      go_ret
      exact ⟨ret_b (by first | rfl | (simp; done) | (simp; omega) | simp_all), rfl⟩
  · refine key false (by simp [repB, h1, h2, h3, h4]) ?_
    go_enter Try.func29, Try.ntmps29
    go_wp2_with fail
    go_ret
    exact ⟨ret_b (by first | rfl | (simp; done) | (simp; omega) | simp_all), rfl⟩
end Go.Proofs.Ytinfbpldgobmfaa
