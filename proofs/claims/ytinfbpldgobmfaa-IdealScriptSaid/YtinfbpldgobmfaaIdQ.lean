/-
  Package ideal: listed, its parts: Contains of uint64s, which addresses are within.
-/
import Derived.Test.YtinfbpldgobmfaaIdP
namespace Go.Proofs.Ytinfbpldgobmfaa
open Go.RowKit
set_option linter.unusedSimpArgs false
set_option linter.unusedVariables false

def Idx64To (xs : List Int) (x : Int) (w : World) (v : Value) (wr : World) : Prop := ∃ k : Nat, k ≤ xs.length ∧ v = .int .i64 k ∧ (∀ y ∈ xs.take k, x ≠ y) ∧ wr = w
theorem idx64_any (v : Value) (xs : List Int) (x : Int) (w : World) (hv : WsAt w v xs) : Calls Try.prog 73 #[v, .int .u64 x] w fun e w' => (∃ i : Int, e = .returned (.int .i64 i) ∧ xs.contains x = decide (0 ≤ i)) ∧ w = w' := by
  obtain ⟨_, A, c, rfl, hc1, hc2, ha⟩ := hv
  unfold maxLen at hc2
  have Ha := Lib.hid ha
  clear ha
  go_enter Try.func73, Try.ntmps73
  go_wp2_with fail
  go_loopw [8] (fun v wr => Idx64To xs x w v wr) (fun v _ => xs.length - (intOf v).toNat)
  case atStart => exact ⟨0, by omega, rfl, by simp, rfl⟩
  case round =>
    obtain ⟨k, hk, rfl, hrel, rfl⟩ := hrel
    have HR := Lib.hid hrel; clear hrel
    by_cases hlt : k < xs.length
    · obtain ⟨b1, o1, rfl, h1⟩ := Ha.out (by omega)
      have c1 : wr.cell? ⟨b1, o1 + k, none⟩ = some (.int .u64 xs[k]) := h1 k _ (by simp [hlt])
      have HT := Lib.hid (List.take_succ_eq_append_getElem hlt)
      have HM := Lib.hid (List.getElem_mem hlt)
      clear h1
      generalize xs[k] = y at *
      by_cases hx : x = y
      · subst hx
        go_wp2_with fail
        go_ret
        exact ⟨⟨k, rfl, by rw [List.contains_iff_mem.2 HM.out]; simp⟩, rfl⟩
      · have HX := Lib.hid hx
        go_wp2_with fail
        go_roundw
        case rel =>
          refine ⟨k + 1, by omega, by go_num, fun u hu => ?_, rfl⟩
          rw [HT.out] at hu
          rcases List.mem_append.1 hu with hu | hu
          · exact HR.out u hu
          · rw [List.mem_singleton.1 hu]; exact HX.out
        case measure => simp [intOf]; omega
    · have hk2 : k = xs.length := by omega
      subst hk2
      go_wp2_with fail
      go_ret
      refine ⟨⟨-1, rfl, ?_⟩, rfl⟩
      have : ¬ x ∈ xs := fun hm => HR.out x (by rw [List.take_length]; exact hm) rfl
      simpa using this
theorem has64_any (v : Value) (xs : List Int) (x : Int) (w : World) (hv : WsAt w v xs) : Calls Try.prog 53 #[v, .int .u64 x] w fun e w' => e = .returned (.bool (xs.contains x)) ∧ w = w' := by
  have HC := Lib.hid (idx64_any v xs x w hv)
  obtain ⟨_, A, c, rfl, hc1, hc2, ha⟩ := hv
  clear ha hc1
  generalize xs.contains x = r at *
  go_enter Try.func53, Try.ntmps53
  go_wp2_with fail
  refine HC.out.mono ?_
  rintro e w' ⟨⟨i, rfl, rfl⟩, rfl⟩
  clear HC
  go_wp2_with fail
  go_ret
  exact ⟨ret_b (by simp), rfl⟩

set_option maxRecDepth 20000 in
theorem idwithin_any (x : Int) (g4 g5 : Nat) (a0 m : Int) (A : Option Addr) (z : List Int) (c : Nat) (w : World) (h1 : w.cell? ⟨g4, 1, none⟩ = some (.int .u64 a0)) (h3 : w.cell? ⟨g4, 3, none⟩ = some (.int .i64 m))
    (h5 : w.cell? ⟨g5, 0, none⟩ = some (.slice A z.length c)) (hz : WsAt w (.slice A z.length c) z) :
    Calls Try.prog 52 #[.int .u64 x, .pointer (some ⟨g5, 0, none⟩), .pointer (some ⟨g4, 0, none⟩)] w fun e w' => e = .returned (.bool (withinB a0 m z x)) ∧ w = w' := by
  obtain ⟨_, A', c', hv, hc1, hc2, ha⟩ := hz
  injection hv with e1 e2 e3
  subst e1 e3
  unfold maxLen at hc2
  have HW := Lib.hid (show withinB a0 m z x = if (z.length : Int) < m then decide (a0 ≤ x) else decide (0 < z.length) && (decide (a0 ≤ x) && decide (x ≤ z.getLast?.getD 0)) from rfl)
  by_cases hm : (z.length : Int) < m
  · have HR := Lib.hid (HW.out.trans (if_pos hm))
    clear HW ha
    generalize withinB a0 m z x = r at *
    generalize z.length = n at *
    go_enter Try.func52, Try.ntmps52
    go_wp2_with fail
    go_ret
    rw [HR.out]
    exact ⟨ret_b (by simp), rfl⟩
  · have HR := Lib.hid (HW.out.trans (if_neg hm))
    clear HW
    by_cases h0 : z.length = 0
    · have HR2 := Lib.hid (show withinB a0 m z x = false from HR.out.trans (by rw [h0]; rfl))
      rw [h0] at h5 hm
      clear HR ha
      go_enter Try.func52, Try.ntmps52
      go_wp2_with fail
      go_ret
      rw [HR2.out]
      exact ⟨rfl, rfl⟩
    · obtain ⟨b, o, rfl, hcl⟩ := ha (by omega)
      have hlast : z.getLast? = some (z[z.length - 1]'(by omega)) := by rw [List.getLast?_eq_getElem?, List.getElem?_eq_getElem (by omega)]
      have c0 := hcl (z.length - 1) (.int .u64 (z[z.length - 1]'(by omega))) (by rw [List.getElem?_map, List.getElem?_eq_getElem (by omega)]; rfl)
      have HR2 := Lib.hid (HR.out.trans (by rw [hlast, decide_eq_true (show 0 < z.length by omega)]))
      simp only [Bool.true_and, Option.getD_some] at HR2
      generalize z[z.length - 1]'(by omega) = y at *
      have hpos : (0 : Int) < z.length := by omega
      have hn : (z.length : Int) - 1 = ((z.length - 1 : Nat) : Int) := by omega
      clear HR hcl hlast ha
      generalize withinB a0 m z x = r at *
      by_cases hx : a0 ≤ x
      · have HX := Lib.hid hx
        go_enter Try.func52, Try.ntmps52
        go_wp2_with fail
        go_ret
        rw [HR2.out]
        exact ⟨ret_b (by simp [hx]), rfl⟩
      · have HX := Lib.hid hx
        go_enter Try.func52, Try.ntmps52
        go_wp2_with fail
        go_ret
        rw [HR2.out]
        exact ⟨ret_b (by have := HX.out; simp; omega), rfl⟩
end Go.Proofs.Ytinfbpldgobmfaa
