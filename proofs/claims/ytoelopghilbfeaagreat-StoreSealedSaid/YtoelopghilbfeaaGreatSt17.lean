/-
  Package store: Needed, blocks, Chip.
-/
import Derived.Test.YtoelopghilbfeaaGreatSt16
namespace Go.Proofs.YtoelopghilbfeaaGreat
open Go.RowKit
set_option linter.unusedSimpArgs false
set_option linter.unusedVariables false

variable {b cb g cap : Nat} {mv : Value} {c : CM} {s : SM} {H Hc Fr : HL} {w : World}
def neededTo' (s : SM) (k : Nat) : List Int := ((List.range k).map fun i : Nat => pagesOf s i).flatten
def neededS (s : SM) : List Int := neededTo' s s.B
theorem neededTo'_succ (s : SM) (k : Nat) : neededTo' s (k + 1) = neededTo' s k ++ pagesOf s k := by
  unfold neededTo'
  rw [List.range_succ, List.map_append, List.flatten_append]
  simp
theorem pagesOf_len {s : SM} (h : Yok s.P s.y) (k : Int) : (pagesOf s k).length ≤ s.P := by
  unfold pagesOf
  rw [List.length_map]
  exact yneeded_len h k
theorem neededTo'_len {s : SM} (h : Yok s.P s.y) (k : Nat) : (neededTo' s k).length ≤ k * s.P := by
  induction k with
  | zero => simp [neededTo']
  | succ k ih =>
    rw [neededTo'_succ, List.length_append, Nat.succ_mul]
    have := pagesOf_len h k
    omega
def NdsTo (f : Nat → List Int) (n : Nat) (w : World) (F : HL) (out i : Value) (wr : World) : Prop :=
  ∃ (j : Nat) (Ho : HL), j ≤ n ∧ i = .int .i64 j ∧ IsNums out (f j) Ho ∧ Holds wr (Ho ++ F) ∧ Grew w wr
set_option maxRecDepth 20000 in
theorem needed_nil (w : World) : Calls Tryz.prog 30 #[.pointer none] w (fun e w' => e = .returned (.slice none 0 0) ∧ w = w') := by
  go_enter Tryz.func30, Tryz.ntmps30
  go_wp2_with fail
  go_ret
  exact ⟨rfl, rfl⟩
set_option maxRecDepth 20000 in
theorem stchip_nil (w : World) : Calls Tryz.prog 34 #[.pointer none] w (fun e w' => e = .returned (.pointer none) ∧ w = w') := by
  go_enter Tryz.func34, Tryz.ntmps34
  go_wp2_with fail
  go_ret
  exact ⟨rfl, rfl⟩
set_option maxRecDepth 20000 in
theorem stchip_any (h : StAt b cb s H) (hH : Holds w (H ++ Fr)) : Calls Tryz.prog 34 #[.pointer (some ⟨b, 0, none⟩)] w (fun e w' => e = .returned (.pointer (some ⟨cb, 0, none⟩)) ∧ w = w') := by
  obtain ⟨yb, mb, hcl⟩ := h.cells
  obtain ⟨x0, x1, x2, x3, x4, x5, x6⟩ := hcl w _ hH
  clear h hH hcl
  go_enter Tryz.func34, Tryz.ntmps34
  go_wp2_with fail
  go_ret
  exact ⟨rfl, rfl⟩
set_option maxRecDepth 20000 in
set_option maxHeartbeats 4000000 in
theorem needed_any (h : StAt b cb s H) (hH : Holds w (H ++ Fr)) (hy : Yok s.P s.y) : Calls Tryz.prog 30 #[.pointer (some ⟨b, 0, none⟩)] w (RetNew (fun v H' => IsNums v (neededS s) H') w (H ++ Fr)) := by
  obtain ⟨yb, mb, hcl⟩ := h.cells
  have HCL := Lib.hid hcl
  have hpb := plan_bd h.plan
  have HBK := Lib.hid (fun (k : Int) (wx : World) (F : HL) (hx : Holds wx (H ++ F)) (h1 : 0 ≤ k) (h2 : k < s.B) => block_any k h hx hy h1 h2)
  have HLN := Lib.hid (fun (k : Nat) (hk : k ≤ s.B) => show (neededTo' s k).length ≤ 256 by
    have h1 := neededTo'_len hy k
    have h2 : k * s.P ≤ 32 * 8 := Nat.mul_le_mul (by omega) (by omega)
    omega)
  have HPL := Lib.hid (fun k => show (pagesOf s k).length ≤ 8 by have := pagesOf_len hy k; omega)
  have HRE := Lib.hid (show neededS s = neededTo' s s.B from rfl)
  generalize neededS s = res at *
  obtain ⟨n, hn⟩ : ∃ n, n = s.B := ⟨_, rfl⟩
  rw [← hn] at HRE HLN HBK hpb
  obtain ⟨x0, x1, x2, x3, x4, x5, x6⟩ := hcl w _ hH
  have hg0 := Grew.refl w
  rw [← hn] at x2
  have HN := Lib.hid hn
  clear h hcl hy hn
  go_enter Tryz.func30, Tryz.ntmps30
  go_wp2_with fail
  go_loopw [3, 12] (fun out i wr => NdsTo (neededTo' s) n w (H ++ Fr) out i wr) (fun _ i _ => n - (intOf i).toNat)
  case atStart => exact ⟨0, [], by omega, rfl, IsRow.nil _ _, hH, hg0⟩
  case round =>
    clear hH hg0 x0 x1 x2 x3 x4 x5 x6
    obtain ⟨k, Ho, hk, rfl, ho, hHr, hgr⟩ := hrel
    have HOU := Lib.hid ho
    clear ho
    by_cases hlt : k < n
    · have hkn : (k : Int) < (n : Int) := by omega
      have HB1 := Lib.hid (HBK.out (k : Int) wr (Ho ++ Fr) (hHr.sub (by (repeat' (first | refine sub_append ?_ ?_ | refine sub_cons ?_ ?_ | exact sub_nil)); all_goals first | (intro p hp; simp only [List.mem_append, List.mem_cons, hp, true_or, or_true]) | simp only [List.mem_append, List.mem_cons, true_or, or_true]) (fun b => by simp only [keyc_append, keyc_cons, keyc_nil]; omega)) (by omega) (by exact_mod_cast hlt))
      have HSU := Lib.hid (neededTo'_succ s k)
      have HL1 := Lib.hid (HLN.out (k + 1) (by omega))
      rw [HSU.out, List.length_append] at HL1
      have HP1 := Lib.hid (HPL.out (k : Int))
      clear hHr
      generalize neededTo' s k = ot at *
      generalize pagesOf s (k : Int) = pg at *
      go_upto_region 8 with fail
      refine HB1.out.mono ?_
      rintro e w2 ⟨v2, H2, rfl, hv2, hH2, hg2⟩
      have HV2 := Lib.hid hv2
      have hH3 : Holds w2 (Ho ++ (H2 ++ (H ++ Fr))) := hH2.sub (by (repeat' (first | refine sub_append ?_ ?_ | refine sub_cons ?_ ?_ | exact sub_nil)); all_goals first | (intro p hp; simp only [List.mem_append, List.mem_cons, hp, true_or, or_true]) | simp only [List.mem_append, List.mem_cons, true_or, or_true]) (fun b => by simp only [keyc_append, keyc_cons, keyc_nil]; omega)
      have HSR := Lib.hid (hv2.at_ hH2)
      have hG2 := hgr.trans hg2
      clear hv2 hH2 hg2 hgr HB1
      go_wp2_with (at_builtin; refine wpList_append_T tInts (by rfl) (.tmp 15) (.tmp 18) (by rfl) (by rfl) (by rfl) HOU.out hH3 HSR.out (by intro x hx; obtain ⟨z, _, rfl⟩ := List.mem_map.1 hx; simp [Value.oneCell']) (by have := HL1.out; simp only [maxLen]; omega) (by have := HL1.out; omega) ?_; intro A' c' w' H' hrow hH4 hg4)
      go_roundw
      case rel =>
        refine ⟨k + 1, H', by omega, by go_num, ?_, hH4.sub (by (repeat' (first | refine sub_append ?_ ?_ | refine sub_cons ?_ ?_ | exact sub_nil)); all_goals first | (intro p hp; simp only [List.mem_append, List.mem_cons, hp, true_or, or_true]) | simp only [List.mem_append, List.mem_cons, true_or, or_true]) (fun b => by simp only [keyc_append, keyc_cons, keyc_nil]; omega), hG2.trans hg4⟩
        rw [HSU.out]
        unfold IsNums
        rw [List.length_append, List.map_append]
        exact hrow
      case measure => simp only [intOf]; omega
    · obtain rfl : k = n := by omega
      have hkn : ¬ (k : Int) < (k : Int) := by omega
      have HHR := Lib.hid hHr
      clear hHr
      go_wp2_with fail
      go_ret
      rw [HRE.out]
      exact ⟨_, Ho, rfl, HOU.out, HHR.out, hgr⟩
end Go.Proofs.YtoelopghilbfeaaGreat
