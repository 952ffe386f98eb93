/-
  slices.BinarySearch at uint64, of a sorted slice.
-/
import Derived.Test.YtdbcmjambajffaaTd2
import Derived.Lib.SlicesSearch
namespace Go.Proofs.Ytdbcmjambajffaa
open Go.RowKit Go.Lib
set_option linter.unusedSimpArgs false
set_option linter.unusedVariables false

theorem nan64_any (x : Int) (w : World) : Calls Try.prog 28 #[.int .u64 x] w fun e w' => e = .returned (.bool false) ∧ w' = w := by
  go_enter Try.func28, Try.ntmps28
  go_wp2
  go_ret
  exact ⟨by simp, rfl⟩

set_option maxHeartbeats 4000000 in
set_option maxRecDepth 1000000 in
theorem search64_any (v : Value) (zs : List Int) (x : Int) (w : World) (hv : WsAt w v zs) (hs : zs.Pairwise (· ≤ ·)) (hbig : zs.length ≤ 1000000) :
    Calls Try.prog 20 #[v, .int .u64 x] w fun e w' => e = .returned (.tuple #[.int .i64 (zs.countP (· < x) : Nat), .bool (zs.contains x)]) ∧ ∃ q, w' = w.drewN q := by
  obtain ⟨_, A, c, rfl, hc1, hc2, hrd⟩ := hv
  unfold maxLen at hc2
  have S : Hid (∀ a b, a ≤ b → b < zs.length → zs.getD a 0 ≤ zs.getD b 0) := Lib.hid (Lib.sorted_at zs zs.length (Nat.le_refl _) (by rw [List.take_of_length_le (Nat.le_refl _)]; exact hs))
  have HR := Lib.hid hrd
  clear hs hrd
  go_enter Try.func20, Try.ntmps20
  go_wp2_with fail
  go_loopg [7, 8] zs.length (fun g s7 s8 wr => ∃ lo hi q : Nat, s7 = .int .i64 lo ∧ s8 = .int .i64 hi ∧ lo ≤ hi ∧ hi ≤ zs.length ∧ hi - lo ≤ g ∧ wr = w.drewN q ∧ (∀ t, t < lo → zs.getD t 0 < x) ∧ (∀ t, hi ≤ t → t < zs.length → x ≤ zs.getD t 0))
  case atStart => exact ⟨0, zs.length, 0, rfl, rfl, Nat.zero_le _, Nat.le_refl _, by omega, rfl, fun t ht => absurd ht (Nat.not_lt_zero _), fun t h1 h2 => by omega⟩
  case round =>
    obtain ⟨lo, hi, q, rfl, rfl, hlh, hin, hg, rfl, h1, h2⟩ := hrel
    have I := Lib.hid (show (∀ t, t < lo → zs.getD t 0 < x) ∧ (∀ t, hi ≤ t → t < zs.length → x ≤ zs.getD t 0) from ⟨h1, h2⟩)
    clear h1 h2
    by_cases hlt : lo < hi
    · obtain ⟨b, o, rfl, hcl⟩ := HR.out (by omega)
      have cm : w.cell? ⟨b, o + (lo + hi) / 2, none⟩ = some (.int .u64 (zs.getD ((lo + hi) / 2) 0)) := hcl _ _ (by rw [List.getElem?_map, List.getElem?_eq_getElem (by omega)]; simp [List.getD, show (lo + hi) / 2 < zs.length by omega])
      clear hcl
      generalize hy : zs.getD ((lo + hi) / 2) 0 = y at cm
      have Y := Lib.hid hy
      clear hy
      by_cases hyx : y < x
      · have hlb : Sort.ltInt y x = true := by unfold Sort.ltInt; simpa using hyx
        go_wp2_with (first | (go_at_call 27; refine (U64.cmp_Less_int _ _ _).mono ?_; rintro e w' ⟨rfl, rfl⟩) | (go_at_call 28; refine (nan64_any _ _).mono ?_; rintro e w' ⟨rfl, rfl⟩))
        go_roundg (hi - ((lo + hi) / 2 + 1))
        case measure => omega
        case rel =>
          refine ⟨(lo + hi) / 2 + 1, hi, _, by rw [show ((lo : Int) + (hi : Int)) / 2 + 1 = (((lo + hi) / 2 + 1 : Nat) : Int) by omega], rfl, by omega, hin, Nat.le_refl _, rfl, fun t ht => ?_, I.out.2⟩
          have := S.out t ((lo + hi) / 2) (by omega) (by omega)
          rw [Y.out] at this
          omega
      · have hlb : Sort.ltInt y x = false := by unfold Sort.ltInt; simpa using hyx
        go_wp2_with (first | (go_at_call 27; refine (U64.cmp_Less_int _ _ _).mono ?_; rintro e w' ⟨rfl, rfl⟩) | (go_at_call 28; refine (nan64_any _ _).mono ?_; rintro e w' ⟨rfl, rfl⟩))
        go_roundg ((lo + hi) / 2 - lo)
        case measure => omega
        case rel =>
          refine ⟨lo, (lo + hi) / 2, _, rfl, by rw [show ((lo : Int) + (hi : Int)) / 2 = (((lo + hi) / 2 : Nat) : Int) by omega], by omega, by omega, Nat.le_refl _, rfl, I.out.1, fun t ht htn => ?_⟩
          have := S.out ((lo + hi) / 2) t ht htn
          rw [Y.out] at this
          omega
    · have : hi = lo := by omega
      subst this
      have e12 := Lib.search_end zs zs.length hi x (Nat.le_refl _) hin I.out.1 I.out.2 S.out
      rw [List.take_of_length_le (Nat.le_refl _)] at e12
      have E := Lib.hid e12
      clear e12
      by_cases hn : hi < zs.length
      · obtain ⟨b, o, rfl, hcl⟩ := HR.out (by omega)
        have cl : w.cell? ⟨b, o + hi, none⟩ = some (.int .u64 (zs.getD hi 0)) := hcl _ _ (by rw [List.getElem?_map, List.getElem?_eq_getElem hn]; simp [List.getD, hn])
        clear hcl
        generalize hy : zs.getD hi 0 = y at cl
        have Y := Lib.hid hy
        clear hy
        by_cases hyx : y = x
        · go_wp2_with (go_at_call 28; refine (nan64_any _ _).mono ?_; rintro e w' ⟨rfl, rfl⟩)
          go_ret2
          refine ⟨?_, _, rfl⟩
          rw [E.out.1, E.out.2, Y.out, decide_eq_true (show hi < zs.length ∧ y = x from ⟨hn, hyx⟩)]
          first | rfl | simp [*]
        · go_wp2_with (go_at_call 28; refine (nan64_any _ _).mono ?_; rintro e w' ⟨rfl, rfl⟩)
          go_ret2
          refine ⟨?_, _, rfl⟩
          rw [E.out.1, E.out.2, Y.out, decide_eq_false (show ¬ (hi < zs.length ∧ y = x) from fun h => hyx h.2)]
          first | rfl | simp [*]
      · go_wp2_with (go_at_call 28; refine (nan64_any _ _).mono ?_; rintro e w' ⟨rfl, rfl⟩)
        go_ret2
        refine ⟨?_, _, rfl⟩
        rw [E.out.1, E.out.2, decide_eq_false (show ¬ (hi < zs.length ∧ zs.getD hi 0 = x) from fun h => hn h.1)]
        first | rfl | simp [*]
end Go.Proofs.Ytdbcmjambajffaa
