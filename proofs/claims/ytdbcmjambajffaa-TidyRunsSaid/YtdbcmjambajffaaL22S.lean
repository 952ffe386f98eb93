/-
  TidyRuns: the walk.
-/
import Derived.Test.YtdbcmjambajffaaL22R
namespace Go.Proofs.Ytdbcmjambajffaa
open Go.RowKit
set_option linter.unusedSimpArgs false
set_option linter.unusedVariables false

/-- addresses near one another -/
def nearF (f z : Int) : Int := f % 1152921504606846976 + z % 40
def nearL (f : Int) (zs : List Int) : List Int := zs.map (nearF f)
theorem near_bd {f z : Int} : f % 1152921504606846976 ≤ nearF f z ∧ nearF f z < f % 1152921504606846976 + 40 := by unfold nearF; omega
theorem near_u64 (f : Int) (zs : List Int) : U64s (nearL f zs) := by
  intro x hx
  obtain ⟨z, _, rfl⟩ := List.mem_map.1 hx
  unfold nearF; omega
/-- no run is too long -/
theorem near_runs (f : Int) (zs : List Int) : ∀ r ∈ runsU (onceU (nearL f zs)), 1 ≤ r.2 ∧ r.2 ≤ 40 := by
  intro r hr
  have h := runs_inv (near_u64 f zs)
  have hp := h.pos r hr
  have hmem : ∀ k : Nat, (k : Int) < r.2 → ∃ z, nearF f z = r.1 + k := by
    intro k hk
    have hm : r.1 + (k : Int) ∈ onceU (nearL f zs) := by
      rw [← h.exp]
      refine List.mem_flatMap.2 ⟨r, hr, ?_⟩
      simp only [expR, List.mem_map, List.mem_range]
      exact ⟨k, by omega, rfl⟩
    obtain ⟨z, _, e⟩ := List.mem_map.1 (mem_onceU.1 hm)
    exact ⟨z, e⟩
  refine ⟨hp, ?_⟩
  obtain ⟨z1, e1⟩ := hmem 0 (by omega)
  obtain ⟨z2, e2⟩ := hmem (r.2 - 1).toNat (by omega)
  have b1 := near_bd (f := f) (z := z1)
  have b2 := near_bd (f := f) (z := z2)
  omega

def NearTo (f : Int) (zs : List Int) (w : World) (v i : Value) (wr : World) : Prop :=
  ∃ (k : Nat) (H : HL), k ≤ zs.length ∧ i = .int .i64 k ∧ IsWs v ((zs.take k).map (nearF f)) H ∧ Holds wr (H ++ allOf w) ∧ Grew w wr
/-- runs, told one by one -/
def AllTo (rs : List (Int × Int)) (w : World) (Fr : HL) (v i : Value) (wr : World) : Prop :=
  ∃ (k : Nat) (H : HL), k ≤ rs.length ∧ i = .int .i64 k ∧ IsWs v ((rs.take k).flatMap expR) H ∧ Holds wr (H ++ Fr) ∧ Grew w wr
def All2To (rs : List (Int × Int)) (r : Int × Int) (k : Nat) (w : World) (Fr : HL) (v j : Value) (wr : World) : Prop :=
  ∃ (q : Nat) (H : HL), (q : Int) ≤ r.2 ∧ j = .int .i64 q ∧ IsWs v ((rs.take k).flatMap expR ++ (List.range q).map fun t : Nat => r.1 + (t : Int)) H ∧ Holds wr (H ++ Fr) ∧ Grew w wr
theorem run_first {s : List Int} {rs : List (Int × Int)} (h : RunInv s rs) (hu : U64s s) : ∀ r ∈ rs, 0 ≤ r.1 ∧ r.1 + r.2 ≤ 18446744073709551616 := by
  intro r hr
  have hp := h.pos r hr
  have hmem : ∀ k : Nat, (k : Int) < r.2 → r.1 + (k : Int) ∈ s := by
    intro k hk
    rw [← h.exp]
    refine List.mem_flatMap.2 ⟨r, hr, ?_⟩
    simp only [expR, List.mem_map, List.mem_range]
    exact ⟨k, by omega, rfl⟩
  have h1 := hu _ (hmem 0 (by omega))
  have h2 := hu _ (hmem (r.2 - 1).toNat (by omega))
  omega
theorem exp_take (rs : List (Int × Int)) (k : Nat) : ((rs.take k).flatMap expR).length ≤ (rs.flatMap expR).length := by
  have h : rs.flatMap expR = (rs.take k).flatMap expR ++ (rs.drop k).flatMap expR := by rw [← List.flatMap_append, List.take_append_drop]
  rw [h, List.length_append]; omega
theorem exp_succ (rs : List (Int × Int)) (k : Nat) (h : k < rs.length) : (rs.take (k + 1)).flatMap expR = (rs.take k).flatMap expR ++ (List.range rs[k].2.toNat).map fun t : Nat => rs[k].1 + (t : Int) := by
  rw [List.take_succ_eq_append_getElem h, List.flatMap_append]
  simp [expR]
def IsIn1To (n : Nat) (wA : World) (i : Value) (wr : World) : Prop := ∃ k m : Nat, k ≤ n ∧ i = .int .i64 k ∧ wr = wA.drewN m
def IsIn2To (x : Int) (s : List Int) (wA : World) (is i : Value) (wr : World) : Prop := ∃ k m : Nat, k ≤ s.length ∧ i = .int .i64 k ∧ is = .bool (decide (x ∈ s.take k)) ∧ wr = wA.drewN m

theorem in_snoc {x y : Int} {l : List Int} (h : ¬ x ∈ l) : decide (x ∈ l ++ [y]) = (y == x) := by
  by_cases e : y = x
  · subst e; simp
  · have e2 : ¬ x = y := fun h => e h.symm
    simp [h, e, e2]
theorem in_snoc' {x y : Int} {l : List Int} (h : x ∈ l) : decide (x ∈ l ++ [y]) = true := decide_eq_true (List.mem_append_left _ h)
set_option maxRecDepth 20000 in
set_option maxHeartbeats 2000000 in
theorem tidyRuns_walk (f : Int) (v : Value) (zs : List Int) (w : World) (hv : WsAt w v zs) (hu : U64s zs) (hf : 0 ≤ f ∧ f < 18446744073709551616) : Calls Try.prog 6 #[v, .int .u64 f] w (RetFr (.bool true) w (allOf w)) := by
  have hH := holds_all w
  have hle := ReadsAt.le hv
  have HV := Lib.hid (fun (wx : World) (hx : Holds wx (allOf w)) => hv.keep (fun p u hu => all_cell (H := []) (by simpa using hx) hu))
  obtain ⟨_, A, c, rfl, _⟩ := hv
  unfold maxLen at hle
  by_cases h50 : 50 < zs.length
  · have HA := Lib.hid (awake22_any w _ hH)
    clear HV
    go_enter Try.func6, Try.ntmps6
    go_wp2_with fail
    refine HA.out.mono ?_
    rintro e w1 ⟨rfl, hH1, hg1⟩
    go_wp2_with fail
    go_ret
    exact ⟨rfl, hH1, hg1⟩
  · have HU := Lib.hid hu
    clear hu
    go_enter Try.func6, Try.ntmps6
    go_wp2_with fail
    go_loopw [5, 6] (fun v i wr => NearTo f zs w v i wr) (fun _ i _ => zs.length - (intOf i).toNat)
    case atStart => exact ⟨0, [], by omega, rfl, IsRow.nil _ _, hH, Grew.refl w⟩
    case round =>
      obtain ⟨k, H, hk, rfl, hn, hHr, hgr⟩ := hrel
      have HN := Lib.hid hn
      obtain ⟨A2, c2, rfl⟩ := hn.val
      clear hn
      have hlm : ((zs.take k).map (nearF f)).length = k := by simp; omega
      rw [hlm] at HN ⊢
      clear hlm
      by_cases hlt : k < zs.length
      · have hrd := HV.out wr hHr.right
        obtain ⟨_, A3, c3, hv3, _, hc33, hrd3⟩ := hrd
        injection hv3 with hv31 hv32 hv33
        subst hv31; subst hv33
        clear hv32
        obtain ⟨b, o, rfl, hcl⟩ := hrd3 (by omega)
        have ca := hcl k (.int .u64 zs[k]) (by rw [List.getElem?_map, List.getElem?_eq_getElem hlt]; rfl)
        clear hcl hrd3 hc33
        have hzb := HU.out zs[k] (List.getElem_mem _)
        have HST : Hid ((zs.take (k + 1)).map (nearF f) = (zs.take k).map (nearF f) ++ [nearF f zs[k]]) := Lib.hid (by rw [List.take_succ_eq_append_getElem hlt, List.map_append]; rfl)
        have hnb := near_bd (f := f) (z := zs[k])
        have HNF : Hid (nearF f zs[k] = f % 1152921504606846976 + zs[k] % 40) := Lib.hid rfl
        generalize zs[k] = z at *
        have HR1 := Lib.hid (show IsRow 22 1 (.slice A2 k c2) k (((zs.take k).map (nearF f)).map (Value.int .u64)) H by have h := HN.out; unfold IsWs at h; rw [List.length_map, List.length_take, Nat.min_eq_left (by omega)] at h; exact h)
        go_wp2_with (at_builtin; refine wpList_append_T tWs (by rfl) (.tmp 26) (.tmp 35) (by rfl) (by rfl) (by rfl) HR1.out (hHr.alloc' _) ReadsAt.one (by simp [Value.oneCell']) (by simp [maxLen]; omega) (by omega) ?_; intro A' c' w3 H' hrow hH3 hg3)
        refine ⟨⟨k + 1, H', by omega, by go_num, ?_, hH3, (hgr.alloc _).trans hg3⟩, by simp [intOf]; omega⟩
        unfold IsWs
        rw [List.length_map, List.length_take, Nat.min_eq_left (by omega), HST.out, List.map_append]
        rw [show [nearF f z].map (Value.int .u64) = [Value.int IntKind.u64 (f % 1152921504606846976 + z % 40)] by rw [← HNF.out]; rfl]
        exact hrow
      · have hkl : k = zs.length := by omega
        subst hkl
        rw [List.take_of_length_le (Nat.le_refl _)] at HN
        change Hid (IsWs _ (nearL f zs) H) at HN
        have hnl : (nearL f zs).length = zs.length := by simp [nearL]
        have hnu := near_u64 f zs
        have HRQ := Lib.hid (runs_any _ (nearL f zs) wr _ (HN.out.at_ hHr) hHr (by omega) hnu)
        have HPA := Lib.hid (fun (wx : World) (F2 Fx : HL) (h1 : Holds wx (H ++ F2)) (hx : Holds wx Fx) => pick_any (zs.length : Int) 0 _ (nearL f zs) wx Fx (HN.out.at_ h1) hx (by omega))
        have HPB := Lib.hid (fun (wx : World) (F2 Fx : HL) (h1 : Holds wx (H ++ F2)) (hx : Holds wx Fx) => pick_any (zs.length : Int) f _ (nearL f zs) wx Fx (HN.out.at_ h1) hx (by omega))
        have hls := onceU_len (nearL f zs)
        rw [hnl] at hls
        rw [pick_all hnu (by omega)] at HPA
        have HQL : Hid ((pickU (zs.length : Int) f (nearL f zs)).length = (onceU (nearL f zs)).length) := Lib.hid (by
          rcases Nat.eq_zero_or_pos zs.length with h0 | h0
          · have : (onceU (nearL f zs)).length = 0 := by omega
            unfold pickU
            rw [if_pos (by omega), this]; rfl
          · rw [pickU_len _ _ _ (by omega)]; omega)
        have HI := Lib.hid (onceU_inc (nearL f zs))
        have HM : Hid (∀ x, x ∈ onceU (nearL f zs) ↔ x ∈ nearL f zs) := Lib.hid (fun x => mem_onceU)
        have HRN := Lib.hid (runs_inv hnu)
        have HNR := Lib.hid (near_runs f zs)
        have HUS := Lib.hid hnu.once
        have hrl := runs_len (onceU (nearL f zs)) (onceU_inc _) hnu.once
        generalize hs : onceU (nearL f zs) = s at *
        generalize nearL f zs = ns at *
        generalize pickU (zs.length : Int) f ns = ps at *
        clear hs HV HU hnu
        have HNC := HN
        have HG1 := Lib.hid hgr
        clear hgr
        have hnsl := hnl
        clear hnl
        generalize zs.length = n at *
        go_wp2_with fail
        refine HRQ.out.mono ?_
        rintro e w4 ⟨v4, H4, rfl, h4, hH4, hg4⟩
        clear HRQ
        have HR4 := Lib.hid h4
        obtain ⟨A4, c4, rfl⟩ := h4.val
        clear h4
        have HG4 := Lib.hid (HG1.out.trans hg4)
        clear HG1 hg4
        generalize runsU s = rs at *
        go_wp2_with fail
        go_loopw [8, 9, 10] (fun v i j wr => AllTo rs w (H4 ++ (H ++ allOf w)) v i wr) (fun _ i _ _ => rs.length - (intOf i).toNat)
        case atStart => exact ⟨0, [], by omega, rfl, IsRow.nil _ _, hH4, HG4.out⟩
        case round =>
          obtain ⟨k, H8, hk, rfl, h8, hHr, hgr⟩ := hrel
          have HR8 := Lib.hid h8
          obtain ⟨A8, c8, rfl⟩ := h8.val
          clear h8
          by_cases hlt : k < rs.length
          · have hcb : IsRuns (.slice A4 rs.length c4) rs H4 := HR4.out
            obtain ⟨_, ⟨_, h0, _⟩ | ⟨g4, cap, cur, fz, hv, hn, hc, hs, ht, hf, rfl⟩⟩ := hcb
            · omega
            injection hv with hv1 hv2 hv3
            subst hv1; subst hv3
            clear hv2
            have hcs := cells_runs rfl ht hlt
            have HC := Lib.hid (fun (wx : World) (F1 Fx : HL) (hx : Holds wx (F1 ++ ([(g4, .cells cur 36 fz)] ++ Fx))) => (show wx.cell? ⟨g4, k * 2, none⟩ = some (.int .u64 rs[k].1) ∧ wx.cell? ⟨g4, k * 2 + 1, none⟩ = some (.int .i64 rs[k].2) from ⟨(hx.right.hcell _).trans hcs.1, (hx.right.hcell _).trans hcs.2⟩))
            have hb := HNR.out rs[k] (List.getElem_mem _)
            have hbu := HUS
            have HST := Lib.hid (exp_succ rs k hlt)
            have hel := exp_take rs k
            rw [HRN.out.exp] at hel
            have HF := Lib.hid (run_first HRN.out HUS.out rs[k] (List.getElem_mem _))
            clear hcs hn hc hs ht hf hbu
            generalize rs[k] = rk at *
            obtain ⟨x1, x2⟩ := rk
            simp only at hb HC HST HF
            obtain ⟨hb1, hb2⟩ := hb
            have hc0 := HC.out wr H8 _ hHr
            obtain ⟨c0, c1⟩ := hc0
            have HE8 : Hid (IsWs (.slice A8 ((rs.take k).flatMap expR).length c8) ((rs.take k).flatMap expR ++ (List.range 0).map fun t : Nat => x1 + (t : Int)) H8) := Lib.hid (by have h := HR8.out; simpa using h)
            clear HR8
            generalize hla : ((rs.take k).flatMap expR).length = la at hel HE8 ⊢
            go_wp2_with fail
            go_loopw [8, 10] (fun v j wr => All2To rs (x1, x2) k w ([(g4, .cells cur 36 fz)] ++ (H ++ allOf w)) v j wr) (fun _ j _ => x2.toNat - (intOf j).toNat)
            case atStart => exact ⟨0, H8, by omega, rfl, HE8.out, hHr, hgr⟩
            case round =>
              obtain ⟨q, H9, hq, rfl, h9, hHr9, hgr9⟩ := hrel
              simp only at hq h9
              have hl9 : (((rs.take k).flatMap expR) ++ (List.range q).map fun t : Nat => x1 + (t : Int)).length = la + q := by rw [List.length_append, hla]; simp
              obtain ⟨A9, c9, rfl⟩ := h9.val
              have HR9 : Hid (IsRow 22 1 (.slice A9 (la + q) c9) (la + q) ((((rs.take k).flatMap expR) ++ (List.range q).map fun t : Nat => x1 + (t : Int)).map (Value.int .u64)) H9) := Lib.hid (by have h := h9; unfold IsWs at h; rw [hl9] at h; exact h)
              rw [hl9]
              clear h9 hl9 c0 c1
              obtain ⟨c0, c1⟩ := HC.out wr H9 _ hHr9
              have hF := HF.out
              by_cases hlq : (q : Int) < x2
              · have hwq : IntKind.u64.wrap (x1 + (q : Int)) = x1 + (q : Int) := by rw [IntKind.wrap_u64]; omega
                have HF2 := Lib.hid hF
                clear hF
                go_wp2_with (at_builtin; refine wpList_append_T tWs (by rfl) (.tmp 68) (.tmp 77) (by rfl) (by rfl) (by rfl) HR9.out (hHr9.alloc' _) ReadsAt.one (by simp [Value.oneCell']) (by simp [maxLen]; omega) (by omega) ?_; intro A' c' w3 H' hrow hH3 hg3)
                refine ⟨⟨q + 1, H', by simp only; omega, by go_num, ?_, hH3, (hgr9.alloc _).trans hg3⟩, by simp [intOf]; omega⟩
                unfold IsWs
                have hl10 : (((rs.take k).flatMap expR) ++ (List.range (q + 1)).map fun t : Nat => x1 + (t : Int)).length = la + q + 1 := by rw [List.length_append, hla]; simp; omega
                rw [hl10, List.range_succ]
                simp only [List.map_append, List.map_cons, List.map_nil, ← List.append_assoc] at hrow ⊢
                exact hrow
              · have hqx : q = x2.toNat := by omega
                clear hF
                go_wp2_with fail
                subst hqx
                refine ⟨⟨k + 1, H9, by omega, by go_num, ?_, hHr9, hgr9⟩, by simp [intOf]; omega⟩
                unfold IsWs
                rw [HST.out, List.length_append, hla]
                simp only [List.length_map, List.length_range]
                exact HR9.out
          · have hkl : k = rs.length := by omega
            subst hkl
            rw [List.take_of_length_le (Nat.le_refl _), HRN.out.exp] at HR8 ⊢
            obtain ⟨wA, hwA⟩ : ∃ x, x = wr := ⟨wr, rfl⟩
            subst hwA
            have HNA := Lib.hid (HN.out.at_ hHr.right.right)
            have HSA := Lib.hid (HR8.out.at_ hHr)
            clear HR4 HRN HNR hrl hk hlt
            go_wp2_with fail
            go_loopw [11, 12, 13] (fun i is k wr => IsIn1To n wA i wr) (fun i _ _ _ => n - (intOf i).toNat)
            case atStart => exact ⟨0, 0, by omega, rfl, rfl⟩
            case round =>
              obtain ⟨i, m, hi, rfl, rfl⟩ := hrel
              by_cases hlt : i < n
              · obtain ⟨_, A5, c5, hv5, _, hc5, hrd5⟩ := HNA.out
                rw [hnsl] at hv5
                injection hv5 with hv51 _ hv53
                subst hv51; subst hv53
                obtain ⟨b, o, rfl, hcl⟩ := hrd5 (by omega)
                have hil : i < ns.length := by omega
                have c0 := hcl i (.int .u64 ns[i]) (by rw [List.getElem?_map, List.getElem?_eq_getElem hil]; rfl)
                have hin : ns[i] ∈ s := (HM.out _).2 (List.getElem_mem _)
                have HIN := Lib.hid hin
                clear hin hcl hrd5 hc5
                generalize ns[i] = x at *
                go_wp2_with fail
                go_loopw [12, 13] (fun is k wr => IsIn2To x s wA is k wr) (fun _ k _ => s.length - (intOf k).toNat)
                case atStart => exact ⟨0, m, by omega, rfl, by simp, rfl⟩
                case round =>
                  obtain ⟨k, m, hk, rfl, rfl, rfl⟩ := hrel
                  by_cases hlk : k < s.length
                  · obtain ⟨_, A6, c6, hv6, _, hc6, hrd6⟩ := HSA.out
                    injection hv6 with hv61 hv62 hv63
                    subst hv61; subst hv63
                    obtain ⟨b2, o2, rfl, hcl2⟩ := hrd6 (by omega)
                    have c1 := hcl2 k (.int .u64 s[k]) (by rw [List.getElem?_map, List.getElem?_eq_getElem hlk]; rfl)
                    have HST : Hid (s.take (k + 1) = s.take k ++ [s[k]]) := Lib.hid (List.take_succ_eq_append_getElem hlk)
                    clear hcl2 hrd6 hc6 hv62
                    generalize s[k] = y at *
                    by_cases hin : x ∈ s.take k
                    · have HD : Hid (decide (x ∈ s.take (k + 1)) = true) := Lib.hid (by rw [HST.out]; exact in_snoc' hin)
                      rw [decide_eq_true hin]
                      clear hin
                      go_upto_region 26 with fail
                      refine Z_begin (fun wx => True ∧ True) 13 (by kernel_rfl) (fun w1 hd => ⟨trivial, trivial⟩) (fun w1 hd hs => ?_)
                      obtain ⟨nq, rfl⟩ := hd
                      refine Z_takeD 0 (some 91) (v := ?_) rfl rfl (by kernel_rfl) (fun _ _ _ h => h) (by rfl) hs ?_ ?_
                      rotate_left
                      · intro wx hx; obtain ⟨s1, s2⟩ := hx; go_simp; try with_reducible rfl
                      simp only [Act.put, List.setIfInBounds_toArray, List.set_cons_succ, List.set_cons_zero]
                      refine Z_takeD 1 (some 92) (v := ?_) rfl rfl (by kernel_rfl) (fun _ _ _ h => h) (by rfl) hs ?_ ?_
                      rotate_left
                      · intro wx hx; obtain ⟨s1, s2⟩ := hx; go_simp; try with_reducible rfl
                      simp only [Act.put, List.setIfInBounds_toArray, List.set_cons_succ, List.set_cons_zero]
                      refine Z_skipD 2 (some 93) rfl rfl (by kernel_rfl) (fun _ _ _ h => h) (by rfl) hs ?_
                      simp only [Act.put, List.setIfInBounds_toArray, List.set_cons_succ, List.set_cons_zero]
                      refine Z_skipD 3 (some 94) rfl rfl (by kernel_rfl) (fun _ _ _ h => h) (by rfl) hs ?_
                      simp only [Act.put, List.setIfInBounds_toArray, List.set_cons_succ, List.set_cons_zero]
                      refine Z_skipD 4 (some 95) rfl rfl (by kernel_rfl) (fun _ _ _ h => h) (by rfl) hs ?_
                      simp only [Act.put, List.setIfInBounds_toArray, List.set_cons_succ, List.set_cons_zero]
                      refine Z_skipD 5 (some 96) rfl rfl (by kernel_rfl) (fun _ _ _ h => h) (by rfl) hs ?_
                      simp only [Act.put, List.setIfInBounds_toArray, List.set_cons_succ, List.set_cons_zero]
                      refine Z_skipD 6 (some 97) rfl rfl (by kernel_rfl) (fun _ _ _ h => h) (by rfl) hs ?_
                      simp only [Act.put, List.setIfInBounds_toArray, List.set_cons_succ, List.set_cons_zero]
                      refine Z_skipD 7 (some 98) rfl rfl (by kernel_rfl) (fun _ _ _ h => h) (by rfl) hs ?_
                      simp only [Act.put, List.setIfInBounds_toArray, List.set_cons_succ, List.set_cons_zero]
                      refine Z_skipD 8 (some 99) rfl rfl (by kernel_rfl) (fun _ _ _ h => h) (by rfl) hs ?_
                      simp only [Act.put, List.setIfInBounds_toArray, List.set_cons_succ, List.set_cons_zero]
                      refine Z_skipD 9 (some 100) rfl rfl (by kernel_rfl) (fun _ _ _ h => h) (by rfl) hs ?_
                      simp only [Act.put, List.setIfInBounds_toArray, List.set_cons_succ, List.set_cons_zero]
                      refine Z_skipD 10 (some 101) rfl rfl (by kernel_rfl) (fun _ _ _ h => h) (by rfl) hs ?_
                      simp only [Act.put, List.setIfInBounds_toArray, List.set_cons_succ, List.set_cons_zero]
                      refine Z_takeD 11 (some 102) (v := ?_) rfl rfl (by kernel_rfl) (fun _ _ _ h => h) (by rfl) hs ?_ ?_
                      rotate_left
                      · intro wx hx; obtain ⟨s1, s2⟩ := hx; go_simp; try with_reducible rfl
                      simp only [Act.put, List.setIfInBounds_toArray, List.set_cons_succ, List.set_cons_zero]
                      refine Z_takeD 12 (some 12) (v := ?_) rfl rfl (by kernel_rfl) (fun _ _ _ h => h) (by rfl) hs ?_ ?_
                      rotate_left
                      · intro wx hx; obtain ⟨s1, s2⟩ := hx; go_simp; try with_reducible rfl
                      simp only [Act.put, List.setIfInBounds_toArray, List.set_cons_succ, List.set_cons_zero]
                      refine Z_done (by kernel_rfl) ?_ _
                      go_wp2_with fail
                      go_roundw
                      case rel => exact ⟨k + 1, m + nq, by omega, by go_num, by rw [HD.out], by first | rfl | exact drewN2 _ _ _⟩
                      case measure => simp [intOf]; omega
                    · have HD : Hid (decide (x ∈ s.take (k + 1)) = (y == x)) := Lib.hid (by rw [HST.out]; exact in_snoc hin)
                      rw [decide_eq_false hin]
                      clear hin
                      go_upto_region 26 with fail
                      refine Z_begin (fun wx => wx.cell? ⟨b, o + i, none⟩ = some (.int .u64 x) ∧ wx.cell? ⟨b2, o2 + k, none⟩ = some (.int .u64 y)) 13 (by kernel_rfl) (fun w1 hd => by obtain ⟨q, rfl⟩ := hd; exact ⟨c0, c1⟩) (fun w1 hd hs => ?_)
                      obtain ⟨nq, rfl⟩ := hd
                      refine Z_takeD 0 (some 91) (v := ?_) rfl rfl (by kernel_rfl) (fun _ _ _ h => h) (by rfl) hs ?_ ?_
                      rotate_left
                      · intro wx hx; obtain ⟨s1, s2⟩ := hx; go_simp; try with_reducible rfl
                      simp only [Act.put, List.setIfInBounds_toArray, List.set_cons_succ, List.set_cons_zero]
                      refine Z_takeD 1 (some 92) (v := ?_) rfl rfl (by kernel_rfl) (fun _ _ _ h => h) (by rfl) hs ?_ ?_
                      rotate_left
                      · intro wx hx; obtain ⟨s1, s2⟩ := hx; go_simp; try with_reducible rfl
                      simp only [Act.put, List.setIfInBounds_toArray, List.set_cons_succ, List.set_cons_zero]
                      refine Z_takeD 2 (some 93) (v := ?_) rfl rfl (by kernel_rfl) (fun _ _ _ h => h) (by rfl) hs ?_ ?_
                      rotate_left
                      · intro wx hx; obtain ⟨s1, s2⟩ := hx; go_simp; try with_reducible rfl
                      simp only [Act.put, List.setIfInBounds_toArray, List.set_cons_succ, List.set_cons_zero]
                      refine Z_takeD 3 (some 94) (v := ?_) rfl rfl (by kernel_rfl) (fun _ _ _ h => h) (by rfl) hs ?_ ?_
                      rotate_left
                      · intro wx hx; obtain ⟨s1, s2⟩ := hx; go_simp; try with_reducible rfl
                      simp only [Act.put, List.setIfInBounds_toArray, List.set_cons_succ, List.set_cons_zero]
                      refine Z_takeD 4 (some 95) (v := ?_) rfl rfl (by kernel_rfl) (fun _ _ _ h => h) (by rfl) hs ?_ ?_
                      rotate_left
                      · intro wx hx; obtain ⟨s1, s2⟩ := hx; go_simp; try with_reducible rfl
                      simp only [Act.put, List.setIfInBounds_toArray, List.set_cons_succ, List.set_cons_zero]
                      refine Z_takeD 5 (some 96) (v := ?_) rfl rfl (by kernel_rfl) (fun _ _ _ h => h) (by rfl) hs ?_ ?_
                      rotate_left
                      · intro wx hx; obtain ⟨s1, s2⟩ := hx; go_simp; try with_reducible rfl
                      simp only [Act.put, List.setIfInBounds_toArray, List.set_cons_succ, List.set_cons_zero]
                      refine Z_takeD 6 (some 97) (v := ?_) rfl rfl (by kernel_rfl) (fun _ _ _ h => h) (by rfl) hs ?_ ?_
                      rotate_left
                      · intro wx hx; obtain ⟨s1, s2⟩ := hx; go_simp; try with_reducible rfl
                      simp only [Act.put, List.setIfInBounds_toArray, List.set_cons_succ, List.set_cons_zero]
                      refine Z_takeD 7 (some 98) (v := ?_) rfl rfl (by kernel_rfl) (fun _ _ _ h => h) (by rfl) hs ?_ ?_
                      rotate_left
                      · intro wx hx; obtain ⟨s1, s2⟩ := hx; go_simp; try with_reducible rfl
                      simp only [Act.put, List.setIfInBounds_toArray, List.set_cons_succ, List.set_cons_zero]
                      refine Z_takeD 8 (some 99) (v := ?_) rfl rfl (by kernel_rfl) (fun _ _ _ h => h) (by rfl) hs ?_ ?_
                      rotate_left
                      · intro wx hx; obtain ⟨s1, s2⟩ := hx; go_simp; try with_reducible rfl
                      simp only [Act.put, List.setIfInBounds_toArray, List.set_cons_succ, List.set_cons_zero]
                      refine Z_takeD 9 (some 100) (v := ?_) rfl rfl (by kernel_rfl) (fun _ _ _ h => h) (by rfl) hs ?_ ?_
                      rotate_left
                      · intro wx hx; obtain ⟨s1, s2⟩ := hx; go_simp; try with_reducible rfl
                      simp only [Act.put, List.setIfInBounds_toArray, List.set_cons_succ, List.set_cons_zero]
                      refine Z_takeD 10 (some 101) (v := ?_) rfl rfl (by kernel_rfl) (fun _ _ _ h => h) (by rfl) hs ?_ ?_
                      rotate_left
                      · intro wx hx; obtain ⟨s1, s2⟩ := hx; go_simp; try with_reducible rfl
                      simp only [Act.put, List.setIfInBounds_toArray, List.set_cons_succ, List.set_cons_zero]
                      refine Z_takeD 11 (some 102) (v := ?_) rfl rfl (by kernel_rfl) (fun _ _ _ h => h) (by rfl) hs ?_ ?_
                      rotate_left
                      · intro wx hx; obtain ⟨s1, s2⟩ := hx; go_simp; try with_reducible rfl
                      simp only [Act.put, List.setIfInBounds_toArray, List.set_cons_succ, List.set_cons_zero]
                      refine Z_takeD 12 (some 12) (v := ?_) rfl rfl (by kernel_rfl) (fun _ _ _ h => h) (by rfl) hs ?_ ?_
                      rotate_left
                      · intro wx hx; obtain ⟨s1, s2⟩ := hx; go_simp; try with_reducible rfl
                      simp only [Act.put, List.setIfInBounds_toArray, List.set_cons_succ, List.set_cons_zero]
                      refine Z_done (by kernel_rfl) ?_ _
                      go_wp2_with fail
                      go_roundw
                      case rel => exact ⟨k + 1, m + nq, by omega, by go_num, by rw [HD.out], by first | rfl | exact drewN2 _ _ _⟩
                      case measure => simp [intOf]; omega
                  · rw [List.take_of_length_le (by omega), decide_eq_true HIN.out]
                    go_wp2_with fail
                    go_roundw
                    case rel => exact ⟨i + 1, m, by omega, by go_num, rfl⟩
                    case measure => simp [intOf]; omega
              · have hA : Holds (wA.drewN m) (H8 ++ (H4 ++ (H ++ allOf w))) := hHr.drewN m
                have HGA := Lib.hid (hgr.drewN m)
                clear hHr hgr HNA HSA hH4
                generalize wA.drewN m = w5 at *
                have HQ1 := Lib.hid (HPA.out w5 _ _ hA.right.right hA)
                go_wp2_with fail
                refine HQ1.out.mono ?_
                rintro e w6 ⟨v6, H6, rfl, h6, hH6, hg6⟩
                clear HQ1
                have HR6 := Lib.hid h6
                obtain ⟨A6, c6, rfl⟩ := h6.val
                clear h6
                have HQ2 := Lib.hid (HPB.out w6 _ _ hH6.right.right.right hH6)
                clear HPA HPB
                go_wp2_with fail
                refine HQ2.out.mono ?_
                rintro e w7 ⟨v7, H7, rfl, h7, hH7, hg7⟩
                clear HQ2
                obtain ⟨A7, c7, rfl⟩ := h7.val
                clear h7
                rw [HQL.out]
                have HSM := Lib.hid (same64_any _ _ s s w7 (HR6.out.at_ hH7.right) (HR8.out.at_ hH7.right.right))
                rw [decide_eq_true rfl] at HSM
                go_wp2_with fail
                refine HSM.out.mono ?_
                rintro e w8 ⟨rfl, q1, rfl⟩
                clear HSM
                have hH8 := hH7.drewN q1
                have HG8 := Lib.hid ((((HGA.out).trans hg6).trans hg7).drewN q1)
                clear HGA hg6 hg7 hH7 hA hH6
                generalize w7.drewN q1 = w8 at *
                have HB1 := Lib.hid (tdbehind_any f _ s w8 (HR6.out.at_ hH8.right))
                have HB2 := Lib.hid (tdbehind_any f _ s w8 (HR8.out.at_ hH8.right.right))
                have HAW := Lib.hid (awake22_any w8 _ hH8.right.right.right.right.right)
                go_wp2_with fail
                refine HB1.out.mono ?_
                rintro e w9 ⟨rfl, rfl⟩
                go_wp2_with fail
                refine HB2.out.mono ?_
                rintro e w9 ⟨rfl, rfl⟩
                go_wp2_with fail
                refine HAW.out.mono ?_
                rintro e w9 ⟨rfl, hH9, hg9⟩
                go_wp2_with fail
                go_ret
                exact ⟨rfl, hH9, HG8.out.trans hg9⟩
end Go.Proofs.Ytdbcmjambajffaa
