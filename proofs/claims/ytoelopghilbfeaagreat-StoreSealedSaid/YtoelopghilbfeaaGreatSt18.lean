/-
  Package store: Sealed, blocks.
-/
import Derived.Test.YtoelopghilbfeaaGreatSt17
namespace Go.Proofs.YtoelopghilbfeaaGreat
open Go.RowKit
set_option linter.unusedSimpArgs false
set_option linter.unusedVariables false

variable {b cb g cap : Nat} {mv : Value} {c : CM} {s : SM} {H Hc Fr : HL} {w : World}
def sealB (s : SM) (c : CM) (k : Nat) : Bool := !c.markOf k && (decide (0 < (Yneeded s.y k).length) && (decide ((k : Int) ≠ s.op) || decide (leftI s c = 0)))
def sealTo (s : SM) (c : CM) (k : Nat) : List Int := ((List.range k).filter (sealB s c)).map fun i : Nat => (i : Int)
def sealedS (s : SM) (c : CM) : List Int := sealTo s c s.B
theorem sealTo_succ (s : SM) (c : CM) (k : Nat) : sealTo s c (k + 1) = if sealB s c k then sealTo s c k ++ [(k : Int)] else sealTo s c k := by
  unfold sealTo
  rw [List.range_succ, List.filter_append]
  cases hk : sealB s c k <;> simp [hk, List.filter_cons]
theorem sealTo_len (s : SM) (c : CM) (k : Nat) : (sealTo s c k).length ≤ k := by
  unfold sealTo
  rw [List.length_map]
  have := List.length_filter_le (sealB s c) (List.range k)
  simpa using this
set_option maxRecDepth 20000 in
theorem sealed_nil (w : World) : Calls Tryz.prog 32 #[.pointer none] w (fun e w' => e = .returned (.slice none 0 0) ∧ w = w') := by
  go_enter Tryz.func32, Tryz.ntmps32
  go_wp2_with fail
  go_ret
  exact ⟨rfl, rfl⟩
set_option maxRecDepth 20000 in
set_option maxHeartbeats 8000000 in
theorem sealed_any (h : StAt b cb s H) (hch : ChipAt cb g cap mv c Hc) (hH : Holds w (H ++ (Hc ++ Fr))) : Calls Tryz.prog 32 #[.pointer (some ⟨b, 0, none⟩)] w (RetNew (fun v H' => IsNums v (sealedS s c) H') w (H ++ (Hc ++ Fr))) := by
  have hpb := plan_bd h.plan
  obtain ⟨yb, mb, hcl, hyn⟩ := h.needed
  have HCL := Lib.hid hcl
  have HYN := Lib.hid hyn
  have HMK := Lib.hid (fun (k : Int) (wx : World) (F : HL) (hx : Holds wx (Hc ++ F)) => nmarked_any k hch hx)
  have HLF := Lib.hid (fun (wx : World) (F : HL) (hx : Holds wx (H ++ (Hc ++ F))) => left_any h hch hx)
  have HRE := Lib.hid (show sealedS s c = sealTo s c s.B from rfl)
  generalize sealedS s c = res at *
  obtain ⟨n, hn⟩ : ∃ n, n = s.B := ⟨_, rfl⟩
  rw [← hn] at HRE hpb
  obtain ⟨x0, x1, x2, x3, x4, x5, x6⟩ := hcl w _ hH
  rw [← hn] at x2
  have hg0 := Grew.refl w
  clear h hch hcl hyn hn
  go_enter Tryz.func32, Tryz.ntmps32
  go_wp2_with fail
  go_loopw [3, 12] (fun out i wr => NdsTo (sealTo s c) n w (H ++ (Hc ++ Fr)) out i wr) (fun _ i _ => n - (intOf i).toNat)
  case atStart => exact ⟨0, [], by omega, rfl, IsRow.nil _ _, hH, hg0⟩
  case round =>
    clear hH hg0 x0 x1 x2 x3 x4 x5 x6
    obtain ⟨k, Ho, hk, rfl, ho, hHr, hgr⟩ := hrel
    have HOU := Lib.hid ho
    clear ho
    by_cases hlt : k < n
    · have hkn : (k : Int) < (n : Int) := by omega
      have HSN := Lib.hid (sealTo_succ s c k)
      have HLN := Lib.hid (show (sealTo s c k).length ≤ 32 by have := sealTo_len s c k; omega)
      generalize sealTo s c k = ot at *
      obtain ⟨x0, x1, x2, x3, x4, x5, x6⟩ := HCL.out wr (Ho ++ (Hc ++ Fr)) (hHr.sub (by (repeat' (first | refine sub_append ?_ ?_ | refine sub_cons ?_ ?_ | exact sub_nil)); all_goals first | (intro p hp; simp only [List.mem_append, List.mem_cons, hp, true_or, or_true]) | simp only [List.mem_append, List.mem_cons, true_or, or_true]) (fun b => by simp only [keyc_append, keyc_cons, keyc_nil]; omega))
      have HM := Lib.hid (HMK.out (k : Int) wr (Ho ++ (H ++ Fr)) (hHr.sub (by (repeat' (first | refine sub_append ?_ ?_ | refine sub_cons ?_ ?_ | exact sub_nil)); all_goals first | (intro p hp; simp only [List.mem_append, List.mem_cons, hp, true_or, or_true]) | simp only [List.mem_append, List.mem_cons, true_or, or_true]) (fun b => by simp only [keyc_append, keyc_cons, keyc_nil]; omega)))
      by_cases hm : c.markOf (k : Nat) = true
      · have HCN := Lib.hid (show sealB s c k = false by unfold sealB; rw [hm]; rfl)
        rw [hm] at HM
        clear hm
        go_upto_region 8 with fail
        refine HM.out.mono ?_
        rintro e w3 ⟨rfl, rfl⟩
        go_wp2_with fail
        go_roundw
        case rel => exact ⟨k + 1, Ho, by omega, by go_num, by rw [HSN.out, if_neg (by rw [HCN.out]; simp)]; exact HOU.out, hHr, hgr⟩
        case measure => simp only [intOf]; omega
      · rw [show c.markOf (k : Nat) = false by simpa using hm] at HM
        have HNE := Lib.hid (HYN.out (k : Int) wr (Ho ++ (Hc ++ Fr)) (hHr.sub (by (repeat' (first | refine sub_append ?_ ?_ | refine sub_cons ?_ ?_ | exact sub_nil)); all_goals first | (intro p hp; simp only [List.mem_append, List.mem_cons, hp, true_or, or_true]) | simp only [List.mem_append, List.mem_cons, true_or, or_true]) (fun b => by simp only [keyc_append, keyc_cons, keyc_nil]; omega)))
        have HMH := Lib.hid hm
        clear hHr hm
        go_upto_region 8 with fail
        refine HM.out.mono ?_
        rintro e w3 ⟨rfl, rfl⟩
        go_upto_region 8 with fail
        refine HNE.out.mono ?_
        rintro e w3 ⟨vn, Hn, rfl, hvn, hH3', hg3'⟩
        have hH3 : Holds w3 (Ho ++ (H ++ (Hc ++ Fr))) := (hH3'.right.sub (by (repeat' (first | refine sub_append ?_ ?_ | refine sub_cons ?_ ?_ | exact sub_nil)); all_goals first | (intro p hp; simp only [List.mem_append, List.mem_cons, hp, true_or, or_true]) | simp only [List.mem_append, List.mem_cons, true_or, or_true]) (fun b => by simp only [keyc_append, keyc_cons, keyc_nil]; omega))
        have hg3 := hgr.trans hg3'
        obtain ⟨A2, c2, rfl⟩ := hvn.val
        clear hvn hH3' hg3' hgr HNE HM x0 x1 x2 x3 x4 x5 x6
        obtain ⟨x0, x1, x2, x3, x4, x5, x6⟩ := HCL.out w3 (Ho ++ (Hc ++ Fr)) (hH3.sub (by (repeat' (first | refine sub_append ?_ ?_ | refine sub_cons ?_ ?_ | exact sub_nil)); all_goals first | (intro p hp; simp only [List.mem_append, List.mem_cons, hp, true_or, or_true]) | simp only [List.mem_append, List.mem_cons, true_or, or_true]) (fun b => by simp only [keyc_append, keyc_cons, keyc_nil]; omega))
        by_cases hl : 0 < (Yneeded s.y (k : Nat)).length
        · have e1 : (0 < ((Yneeded s.y (k : Nat)).length : Int)) := by omega
          have HLH := Lib.hid hl
          clear hl
          by_cases ho : (k : Int) = s.op
          · rw [← ho] at x6
            have HLE := Lib.hid (HLF.out w3 (Ho ++ Fr) (hH3.sub (by (repeat' (first | refine sub_append ?_ ?_ | refine sub_cons ?_ ?_ | exact sub_nil)); all_goals first | (intro p hp; simp only [List.mem_append, List.mem_cons, hp, true_or, or_true]) | simp only [List.mem_append, List.mem_cons, true_or, or_true]) (fun b => by simp only [keyc_append, keyc_cons, keyc_nil]; omega)))
            have HOH := Lib.hid ho
            clear ho
            have HCX := Lib.hid (show decide (leftI s c = 0) = sealB s c k by unfold sealB; rw [show c.markOf (k : Nat) = false by simpa using HMH.out]; simp [← HOH.out, HLH.out])
            have e3 : ((leftI s c : Int) == 0) = decide (leftI s c = 0) := by rw [Bool.eq_iff_iff]; simp
            generalize decide (leftI s c = 0) = dz at *
            generalize leftI s c = lz at *
            go_upto_region 8 with fail
            refine HLE.out.mono ?_
            rintro e w4 ⟨rfl, q, rfl⟩
            have hH4 := hH3.drewN q
            have hg4 := hg3.drewN q
            generalize w3.drewN q = w4 at *
            cases dz with
            | false =>
              have HCN := Lib.hid HCX.out.symm
              go_wp2_with fail
              go_roundw
              case rel => exact ⟨k + 1, Ho, by omega, by go_num, by rw [HSN.out, if_neg (by rw [HCN.out]; simp)]; exact HOU.out, hH4, hg4⟩
              case measure => simp only [intOf]; omega
            | true =>
              have HCN := Lib.hid HCX.out.symm
              go_wp2_with (at_builtin; refine wpList_append_T tInts (by rfl) (.tmp 45) (.tmp 47) (by rfl) (by rfl) (by rfl) HOU.out (hH4.alloc' _) ReadsAt.one (by simp [Value.oneCell']) (by have := HLN.out; simp only [maxLen]; omega) (by have := HLN.out; omega) ?_; intro A' c' w' H' hrow hH9 hg9)
              go_roundw
              case rel =>
                refine ⟨k + 1, H', by omega, by go_num, ?_, hH9, (hg4.alloc _).trans hg9⟩
                rw [HSN.out, if_pos HCN.out]
                unfold IsNums
                rw [List.length_append, List.map_append]
                exact hrow
              case measure => simp only [intOf]; omega
          · have e2 : ((k : Int) == s.op) = false := by simpa using ho
            have HOH := Lib.hid ho
            clear ho
            have HCN := Lib.hid (show sealB s c k = true by unfold sealB; rw [show c.markOf (k : Nat) = false by simpa using HMH.out]; simp [HOH.out, HLH.out])
            go_wp2_with (at_builtin; refine wpList_append_T tInts (by rfl) (.tmp 45) (.tmp 47) (by rfl) (by rfl) (by rfl) HOU.out (hH3.alloc' _) ReadsAt.one (by simp [Value.oneCell']) (by have := HLN.out; simp only [maxLen]; omega) (by have := HLN.out; omega) ?_; intro A' c' w' H' hrow hH9 hg9)
            go_roundw
            case rel =>
              refine ⟨k + 1, H', by omega, by go_num, ?_, hH9, (hg3.alloc _).trans hg9⟩
              rw [HSN.out, if_pos HCN.out]
              unfold IsNums
              rw [List.length_append, List.map_append]
              exact hrow
            case measure => simp only [intOf]; omega
        · have e1 : ¬ (0 < ((Yneeded s.y (k : Nat)).length : Int)) := by omega
          have HCN := Lib.hid (show sealB s c k = false by unfold sealB; simp [hl])
          clear hl
          go_wp2_with fail
          go_roundw
          case rel => exact ⟨k + 1, Ho, by omega, by go_num, by rw [HSN.out, if_neg (by rw [HCN.out]; simp)]; exact HOU.out, hH3, hg3⟩
          case measure => simp only [intOf]; omega
    · obtain rfl : k = n := by omega
      have hkn : ¬ (k : Int) < (k : Int) := by omega
      have HHR := Lib.hid hHr
      clear hHr
      go_wp2_with fail
      go_ret
      rw [HRE.out]
      exact ⟨_, Ho, rfl, HOU.out, HHR.out, hgr⟩
end Go.Proofs.YtoelopghilbfeaaGreat
