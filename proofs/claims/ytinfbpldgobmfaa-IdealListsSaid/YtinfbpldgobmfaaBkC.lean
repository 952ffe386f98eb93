/-
  Blocks of package ideal: which goes ahead.
-/
import Derived.Test.YtinfbpldgobmfaaBk
import Derived.Sort.Walk0
namespace Go.Proofs.Ytinfbpldgobmfaa
open Go.RowKit
set_option linter.unusedSimpArgs false
set_option linter.unusedVariables false

theorem nanInt_any (x : Int) (w : World) : Calls Try.prog 77 #[.int .i64 x] w fun e w' => e = .returned (.bool false) ∧ w = w' := by
  go_enter Try.func77, Try.ntmps77
  go_wp2_with fail
  go_ret
  exact ⟨ret_b (by simp), rfl⟩
set_option maxRecDepth 20000 in
theorem cmpInt_any (x y : Int) (w : World) : Calls Try.prog 68 #[.int .i64 x, .int .i64 y] w fun e w' => e = .returned (.int .i64 (cmpN x y)) ∧ w = w' := by
  have H1 := Lib.hid (nanInt_any x w)
  have H2 := Lib.hid (nanInt_any y w)
  by_cases h1 : x < y
  · have hc := Lib.hid (show cmpN x y = -1 by unfold cmpN; rw [if_pos h1])
    go_enter Try.func68, Try.ntmps68
    go_wp2_with fail
    refine H1.out.mono ?_
    rintro e w1 ⟨rfl, rfl⟩
    go_wp2_with fail
    refine H2.out.mono ?_
    rintro e w1 ⟨rfl, rfl⟩
    go_wp2_with fail
    go_ret
    rw [hc.out]; exact ⟨rfl, rfl⟩
  · by_cases h2 : y < x
    · have hc := Lib.hid (show cmpN x y = 1 by unfold cmpN; rw [if_neg h1, if_pos h2])
      go_enter Try.func68, Try.ntmps68
      go_wp2_with fail
      refine H1.out.mono ?_
      rintro e w1 ⟨rfl, rfl⟩
      go_wp2_with fail
      refine H2.out.mono ?_
      rintro e w1 ⟨rfl, rfl⟩
      go_wp2_with fail
      go_ret
      rw [hc.out]; exact ⟨rfl, rfl⟩
    · have hc := Lib.hid (show cmpN x y = 0 by unfold cmpN; rw [if_neg h1, if_neg h2])
      go_enter Try.func68, Try.ntmps68
      go_wp2_with fail
      refine H1.out.mono ?_
      rintro e w1 ⟨rfl, rfl⟩
      go_wp2_with fail
      refine H2.out.mono ?_
      rintro e w1 ⟨rfl, rfl⟩
      go_wp2_with fail
      go_ret
      rw [hc.out]; exact ⟨rfl, rfl⟩
set_option maxRecDepth 20000 in
theorem cmpStr_any (x y : List UInt8) (w : World) : Calls Try.prog 70 #[strB x, strB y] w fun e w' => e = .returned (.int .i64 (cmpS x y)) ∧ w = w' := by
  have H1 := Lib.hid (nanStr_any x w)
  have H2 := Lib.hid (nanStr_any y w)
  have e1 := strB_toList x
  have e2 := strB_toList y
  unfold strB at *
  cases h1 : Op.bytesLess x y with
  | true =>
    have hc := Lib.hid (show cmpS x y = -1 by unfold cmpS; rw [if_pos h1])
    go_enter Try.func70, Try.ntmps70
    go_wp2_with fail
    refine H1.out.mono ?_
    rintro e w1 ⟨rfl, rfl⟩
    go_wp2_with fail
    refine H2.out.mono ?_
    rintro e w1 ⟨rfl, rfl⟩
    go_wp2_with fail
    go_ret
    rw [hc.out]; exact ⟨rfl, rfl⟩
  | false =>
    cases h2 : (x == y) with
    | true =>
      have hc := Lib.hid (show cmpS x y = 0 by unfold cmpS; rw [if_neg (by rw [h1]; decide), if_pos h2])
      go_enter Try.func70, Try.ntmps70
      go_wp2_with fail
      refine H1.out.mono ?_
      rintro e w1 ⟨rfl, rfl⟩
      go_wp2_with fail
      refine H2.out.mono ?_
      rintro e w1 ⟨rfl, rfl⟩
      go_wp2_with fail
      go_ret
      rw [hc.out]; exact ⟨rfl, rfl⟩
    | false =>
      have hc := Lib.hid (show cmpS x y = 1 by unfold cmpS; rw [if_neg (by rw [h1]; decide), if_neg (by rw [h2]; decide)])
      go_enter Try.func70, Try.ntmps70
      go_wp2_with fail
      refine H1.out.mono ?_
      rintro e w1 ⟨rfl, rfl⟩
      go_wp2_with fail
      refine H2.out.mono ?_
      rintro e w1 ⟨rfl, rfl⟩
      go_wp2_with fail
      go_ret
      rw [hc.out]; exact ⟨rfl, rfl⟩
def OrTo (w : World) (x : Int) (i : Value) (wr : World) : Prop := (i = .int .i64 0 ∨ (i = .int .i64 1 ∧ x = 0) ∨ (i = .int .i64 2 ∧ x = 0)) ∧ wr = w
set_option maxRecDepth 20000 in
theorem cmpOr_any (x y : Int) (b : Nat) (w : World) (h0 : w.cell? ⟨b, 0, none⟩ = some (.int .i64 x)) (h1 : w.cell? ⟨b, 1, none⟩ = some (.int .i64 y)) : Calls Try.prog 67 #[.slice (some ⟨b, 0, none⟩) 2 2] w fun e w' => e = .returned (.int .i64 (orI x y)) ∧ w = w' := by
  by_cases hx : x = 0
  · subst hx
    by_cases hy : y = 0
    · subst hy
      go_enter Try.func67, Try.ntmps67
      go_wp2_with fail
      refine wp_loop_rounds 3 ?_
      rw [rounds_succ]; go_wp2_with fail
      rw [rounds_succ]; go_wp2_with fail
      rw [rounds_succ]; go_wp2_with fail
      go_ret
      exact ⟨rfl, rfl⟩
    · go_enter Try.func67, Try.ntmps67
      go_wp2_with fail
      refine wp_loop_rounds 2 ?_
      rw [rounds_succ]; go_wp2_with fail
      rw [rounds_succ]; go_wp2_with fail
      go_ret
      exact ⟨by simp [orI], rfl⟩
  · go_enter Try.func67, Try.ntmps67
    go_wp2_with fail
    refine wp_loop_rounds 1 ?_
    rw [rounds_succ]; go_wp2_with fail
    go_ret
    exact ⟨by simp [orI, hx], rfl⟩
end Go.Proofs.Ytinfbpldgobmfaa
