/-
  TidyRounds: the walk.
-/
import Derived.Test.YtdbcmjambajffaaL22
namespace Go.Proofs.Ytdbcmjambajffaa
open Go.RowKit
set_option linter.unusedSimpArgs false
set_option linter.unusedVariables false

/-- in the midst of the rounds -/
def RoundTo (s : List Int) (f : Int) (m : Nat) (w : World) (F : HL) (fv sv i : Value) (wr : World) : Prop :=
  ∃ (r : Nat) (g : Int) (H : HL), r ≤ 45 ∧ i = .int .i64 r ∧ fv = .int .u64 g ∧ (0 ≤ g ∧ g < 18446744073709551616) ∧ IsWs sv (cyc s (idxU f s) (r * m)) H ∧ (0 < s.length → idxU g s % s.length = (idxU f s + r * m) % s.length) ∧ Holds wr (H ++ F) ∧ Grew w wr
theorem rounds_end {s : List Int} (hi : Inc s) (i : Nat) {r m M : Nat} (hM : 1 ≤ M) (hm : m = min M s.length) (h : s.length = 0 ∨ r = 45) (hs : s.length ≤ 40) : onceU (cyc s i (r * m)) = s := by
  refine onceU_eq hi fun x => ?_
  rcases Nat.eq_zero_or_pos s.length with h0 | h0
  · obtain rfl := List.length_eq_zero_iff.1 h0
    simp only [List.length_nil, Nat.min_zero] at hm
    subst hm
    simp [cyc]
  · have hr : r = 45 := by omega
    subst hr
    refine ⟨fun hx => cyc_all (by omega) hx, fun hx => cyc_mem h0 hx⟩
theorem behind_bd (f : Int) (zs : List Int) (hf : 0 ≤ f ∧ f < 18446744073709551616) : 0 ≤ behindU f zs ∧ behindU f zs < 18446744073709551616 := by
  unfold behindU
  split
  · omega
  · exact hf
/-- the runs' sum, in the midst -/
def SumTo (rs : List (Int × Int)) (wA : World) (n i : Value) (wr : World) : Prop := ∃ k m : Nat, k ≤ rs.length ∧ i = .int .i64 k ∧ n = .int .i64 (sumR (rs.take k)) ∧ wr = wA.drewN m
theorem sumR_succ (rs : List (Int × Int)) (k : Nat) (h : k < rs.length) : sumR (rs.take (k + 1)) = sumR (rs.take k) + rs[k].2 := by
  unfold sumR
  rw [List.take_succ_eq_append_getElem h, List.map_append, List.sum_append]
  simp
theorem sumR_bd (rs : List (Int × Int)) (hp : ∀ r ∈ rs, 1 ≤ r.2) (k : Nat) : 0 ≤ sumR (rs.take k) ∧ sumR (rs.take k) ≤ sumR rs := by
  have h1 := sum_exp (rs.take k) fun r hr => hp r (List.mem_of_mem_take hr)
  have h2 := sum_exp (rs.drop k) fun r hr => hp r (List.mem_of_mem_drop hr)
  have h3 : sumR rs = sumR (rs.take k) + sumR (rs.drop k) := by
    unfold sumR
    rw [← List.sum_append, ← List.map_append, List.take_append_drop]
  omega
theorem cells_runs {n : Nat} {cur : Array Value} {rs : List (Int × Int)} (hn : rs.length = n) (ht : cur.toList.take (n * 2) = rs.flatMap runC) {k : Nat} (hk : k < rs.length) : cur[k * 2]? = some (.int .u64 rs[k].1) ∧ cur[k * 2 + 1]? = some (.int .i64 rs[k].2) := by
  obtain ⟨h1, h2⟩ := runC_get rs k hk
  rw [← ht, List.getElem?_take, if_pos (by omega), Array.getElem?_toList] at h1
  rw [← ht, List.getElem?_take, if_pos (by omega), Array.getElem?_toList] at h2
  exact ⟨h1, h2⟩

set_option maxRecDepth 20000 in
set_option maxHeartbeats 2000000 in
theorem tidyRounds_walk (many f : Int) (v : Value) (zs : List Int) (w : World) (hv : WsAt w v zs) (hu : U64s zs) (hf : 0 ≤ f ∧ f < 18446744073709551616) : Calls Try.prog 4 #[.int .i64 many, .int .u64 f, v] w (RetFr (.bool true) w (allOf w)) := by
  have hH := holds_all w
  have HV := Lib.hid (fun (wx : World) (hx : Holds wx (allOf w)) => hv.keep (fun p u hu => all_cell (H := []) (by simpa using hx) hu))
  have hle := ReadsAt.le hv
  obtain ⟨_, A, c, rfl, _⟩ := hv
  unfold maxLen at hle
  by_cases h40 : 40 < zs.length
  · have HA := Lib.hid (awake22_any w _ hH)
    clear HV
    go_enter Try.func4, Try.ntmps4
    go_wp2_with fail
    refine HA.out.mono ?_
    rintro e w1 ⟨rfl, hH1, hg1⟩
    go_wp2_with fail
    go_ret
    exact ⟨rfl, hH1, hg1⟩
  · have hM := low_bd many 8 (by omega) (by omega)
    have HL1 := Lib.hid (low_any many 8 w (by omega) (by omega))
    have HU := Lib.hid hu
    have hls := onceU_len zs
    have HI := Lib.hid (onceU_inc zs)
    have HUS := Lib.hid hu.once
    have HP := Lib.hid (pick_any (zs.length : Int) 0 _ zs w _ (HV.out w hH) hH (by omega))
    rw [pick_all hu (by omega)] at HP
    have HRN := Lib.hid (runs_inv hu)
    have HRB := Lib.hid (runs_bd (onceU zs) (onceU_inc zs) hu.once)
    have hrl := runs_len (onceU zs) (onceU_inc zs) hu.once
    have HPK : Hid (∀ g, pickU (1 + lowI many 8) g zs = cyc (onceU zs) (idxU g (onceU zs)) (min (1 + lowI many 8).toNat (onceU zs).length)) := Lib.hid (fun g => pick_cyc (by omega))
    have HPW := Lib.hid (fun (a g : Int) (wx : World) (Fx : HL) (h1 : Holds wx (allOf w)) (hx : Holds wx Fx) => pick_any a g _ zs wx Fx (HV.out wx h1) hx (by omega))
    have HRW := Lib.hid (fun (wx : World) (Fx : HL) (h1 : Holds wx (allOf w)) (hx : Holds wx Fx) => runs_any _ zs wx Fx (HV.out wx h1) hx (by omega) hu)
    generalize hs : onceU zs = s at *
    clear hs HV hu
    generalize lowI many 8 = L at *
    obtain ⟨M, hMM⟩ : ∃ M : Nat, (M : Int) = 1 + L := ⟨(1 + L).toNat, by omega⟩
    obtain ⟨m, hm⟩ : ∃ m : Nat, m = min M s.length := ⟨_, rfl⟩
    rw [← hMM, show ((M : Int)).toNat = M by omega, ← hm] at HPK
    have hMi : 1 + L = (M : Int) := hMM.symm
    have hmi : min (M : Int) (s.length : Int) = (m : Int) := by omega
    have hM1 : 1 ≤ M := by omega
    have hM8 : M ≤ 8 := by omega
    clear hMM hM
    have HM := Lib.hid hm
    clear hm
    generalize zs.length = n at *
    go_enter Try.func4, Try.ntmps4
    go_wp2_with fail
    refine HL1.out.mono ?_
    rintro e w1 ⟨rfl, rfl⟩
    clear HL1
    go_wp2_with fail
    refine HP.out.mono ?_
    rintro e w1 ⟨v1, H1, rfl, h1, hH1, hg1⟩
    clear HP
    have HW1 := Lib.hid (fun (wx : World) (Fx : HL) (hx : Holds wx (H1 ++ Fx)) => h1.at_ hx)
    obtain ⟨A1, c1, rfl⟩ := h1.val
    clear h1
    go_wp2_with fail
    rw [show decide (n < s.length) = false from decide_eq_false (by omega)]
    go_loopw [1, 8, 9] (fun fv sv i wr => RoundTo s f m w (H1 ++ allOf w) fv sv i wr) (fun _ _ i _ => 45 - (intOf i).toNat)
    case atStart => exact ⟨0, f, [], by omega, rfl, rfl, hf, by rw [Nat.zero_mul]; exact IsRow.nil _ _, fun _ => by rw [Nat.zero_mul, Nat.add_zero], hH1, hg1⟩
    case round =>
      obtain ⟨r, g, Hr, hr, rfl, rfl, hgb, hsr, hidx, hHr, hgr⟩ := hrel
      have HSR := Lib.hid hsr
      have HID := Lib.hid hidx
      obtain ⟨A2, c2, rfl⟩ := hsr.val
      clear hsr hidx
      rw [cyc_len] at *
      by_cases hgo : r < 45 ∧ 0 < s.length
      · obtain ⟨hr45, hn0⟩ := hgo
        have hm1 : 1 ≤ m := by have := HM.out; omega
        have hm8 : m ≤ 8 := by have := HM.out; omega
        have hrm : r * m ≤ 45 * 8 := Nat.mul_le_mul (by omega) hm8
        have HQ := Lib.hid (HPW.out (M : Int) g wr _ hHr.right.right hHr)
        rw [HPK.out g, cyc_mod s (HID.out hn0) m] at HQ
        have hcl : (cyc s (idxU f s + r * m) m).length = m := cyc_len _ _ _
        have HN := Lib.hid (show idxU (behindU g (cyc s (idxU f s + r * m) m)) s % s.length = (idxU f s + (r + 1) * m) % s.length by
          rw [behind_cyc HI.out HUS.out hn0 (by omega), Nat.succ_mul, Nat.add_assoc])
        have HC2 := Lib.hid (cyc_add s (idxU f s) (r * m) m)
        have HB2 := Lib.hid (behind_bd g (cyc s (idxU f s + r * m) m) hgb)
        generalize cyc s (idxU f s + r * m) m = ps at *
        have hge : ¬ (s.length : Int) ≤ 0 := by omega
        go_wp2_with fail
        refine HQ.out.mono ?_
        rintro e w2 ⟨v2, H2, rfl, h2, hH2, hg2⟩
        clear HQ
        have HW2 := Lib.hid h2
        obtain ⟨A3, c3, rfl⟩ := h2.val
        clear h2
        rw [hcl] at HW2 ⊢
        have HCL := Lib.hid hcl
        clear hcl
        have HR1 := Lib.hid (show IsRow 22 1 (.slice A2 (r * m) c2) (r * m) ((cyc s (idxU f s) (r * m)).map (Value.int .u64)) Hr by have h := HSR.out; unfold IsWs at h; rw [cyc_len] at h; exact h)
        have HR2 := Lib.hid (show ReadsAt w2 1 (.slice A3 m c3) m (ps.map (Value.int .u64)) by have h := HW2.out.at_ hH2; unfold WsAt at h; rw [HCL.out] at h; exact h)
        have h1 : ∀ x ∈ ps.map (Value.int .u64), x.oneCell' = true := by intro x hx; obtain ⟨y, _, rfl⟩ := List.mem_map.1 hx; rfl
        have H1C := Lib.hid h1
        clear h1
        go_wp2_with (at_builtin; refine wpList_append_T tWs (by rfl) (.tmp 50) (.tmp 51) (by rfl) (by rfl) (by rfl) HR1.out hH2.swap HR2.out H1C.out (by simp [maxLen]; omega) (by omega) ?_; intro A' c' w3 H' hrow hH3 hg3)
        have HBH := Lib.hid (tdbehind_any g (.slice A3 m c3) ps w3 (HW2.out.at_ hH3.swap))
        go_wp2_with fail
        refine HBH.out.mono ?_
        rintro e w4 ⟨rfl, rfl⟩
        clear HBH
        go_wp2_with fail
        go_roundw
        case rel =>
          refine ⟨r + 1, behindU g ps, H', by omega, by go_num, rfl, HB2.out, ?_, fun _ => HN.out, hH3.mid, (hgr.trans hg2).trans hg3⟩
          unfold IsWs
          rw [cyc_len, Nat.succ_mul, HC2.out, List.map_append]
          exact hrow
        case measure => simp [intOf]; omega
      · have HE : Hid (onceU (cyc s (idxU f s) (r * m)) = s) := Lib.hid (rounds_end HI.out _ hM1 HM.out (by omega) (by omega))
        have hm8 : m ≤ 8 := by have := HM.out; omega
        have hrm : r * m ≤ 45 * 8 := Nat.mul_le_mul (by omega) hm8
        have hcu : U64s (cyc s (idxU f s) (r * m)) := fun x hx => by
          rcases Nat.eq_zero_or_pos s.length with h0 | h0
          · have : m = 0 := by have := HM.out; omega
            subst this
            simp [cyc] at hx
          · exact HUS.out x (cyc_mem h0 hx)
        have HQ := Lib.hid (pick_any (n : Int) 0 _ (cyc s (idxU f s) (r * m)) wr _ (HSR.out.at_ hHr) hHr (by rw [cyc_len]; omega))
        rw [pick_all hcu (by rw [HE.out]; omega), HE.out] at HQ
        have HRG := Lib.hid hgr
        clear hcu HSR HID HPK HPW HE HM hmi hMi hgr
        have hex : (¬ r < 45) ∨ (r < 45 ∧ ¬ 0 < s.length) := by omega
        clear hgo
        rcases hex with hr5 | ⟨hr5, hz⟩
        all_goals
          go_wp2_with fail
          try clear hz
          refine HQ.out.mono ?_
          rintro e w2 ⟨v2, H2, rfl, h2, hH2, hg2⟩
          clear HQ
          have HW2 := Lib.hid (h2.at_ hH2)
          obtain ⟨A3, c3, rfl⟩ := h2.val
          clear h2
          have HSM := Lib.hid (same64_any _ _ s s w2 HW2.out (HW1.out w2 _ hH2.right.right))
          rw [decide_eq_true rfl] at HSM
          go_wp2_with fail
          refine HSM.out.mono ?_
          rintro e w3 ⟨rfl, q, rfl⟩
          clear HSM
          have hH3 : Holds (w2.drewN q) (allOf w) := (hH2.right.right.right).drewN q
          have HRQ := Lib.hid (HRW.out (w2.drewN q) _ hH3 hH3)
          clear HRW
          go_wp2_with fail
          refine HRQ.out.mono ?_
          rintro e w4 ⟨v4, H4, rfl, h4, hH4, hg4⟩
          clear HRQ
          have HR4 := Lib.hid h4
          obtain ⟨A4, c4, rfl⟩ := h4.val
          clear h4
          have HG4 := Lib.hid (((HRG.out.trans hg2).drewN q).trans hg4)
          clear HRG hg4 hg2 hHr
          have HSUM := Lib.hid ((sum_exp _ HRN.out.pos).trans (congrArg (fun l : List Int => (l.length : Int)) HRN.out.exp))
          have HPOS := Lib.hid HRN.out.pos
          have HGAP := Lib.hid HRN.out.gap
          clear HRN
          generalize runsU s = rs at *
          go_wp2_with fail
          go_loopw [11, 13] (fun n i wr => SumTo rs w4 n i wr) (fun _ i _ => rs.length - (intOf i).toNat)
          case atStart => exact ⟨0, 0, by omega, rfl, rfl, rfl⟩
          case round =>
            obtain ⟨k, q2, hk, rfl, rfl, rfl⟩ := hrel
            by_cases hlt : k < rs.length
            · obtain ⟨_, ⟨_, h0, _⟩ | ⟨g4, cap, cur, fz, hv, hn, hc, hs, ht, hf, rfl⟩⟩ := HR4.out
              · omega
              injection hv with hv1 hv2 hv3
              subst hv1; subst hv3
              clear hv2
              have hcs := cells_runs rfl ht hlt
              have hb := HRB.out rs[k] (List.getElem_mem _)
              have hsk : sumR (rs.take (k + 1)) = sumR (rs.take k) + rs[k].2 := sumR_succ rs k hlt
              have c0 : w4.cell? ⟨g4, k * 2, none⟩ = some (.int .u64 rs[k].1) := (hH4.hcell _).trans hcs.1
              have c1 : w4.cell? ⟨g4, k * 2 + 1, none⟩ = some (.int .i64 rs[k].2) := (hH4.hcell _).trans hcs.2
              have hsb := sumR_bd rs HPOS.out k
              have hsb2 := sumR_bd rs HPOS.out (k + 1)
              have hsl := HSUM.out
              have HSK := Lib.hid hsk
              rw [hsk] at hsb2
              have hww : wrap64 (sumR (rs.take k) + rs[k].2) = sumR (rs.take k) + rs[k].2 := by unfold wrap64; omega
              have hp1 : ¬ rs[k].2 < 1 := by omega
              rcases Nat.eq_zero_or_pos k with h0 | h0
              · have hk0 : decide ((0 : Int) < (k : Int)) = false := decide_eq_false (by omega)
                have hk1 : decide (0 < k) = false := decide_eq_false (by omega)
                clear hsk hb hcs ht hf hs
                generalize sumR (rs.take k) = sk at *
                generalize rs[k] = rk at *
                obtain ⟨x1, x2⟩ := rk
                simp only at c0 c1 hsb hsb2 hww hp1 HSK
                clear hsb hsb2 hsl h0
                go_upto_region 23 with fail
                refine Z_begin (fun wx => wx.cell? ⟨g4, k * 2, none⟩ = some (.int .u64 x1) ∧ wx.cell? ⟨g4, k * 2 + 1, none⟩ = some (.int .i64 x2)) 46 (by kernel_rfl) (fun w1 hd => by obtain ⟨q, rfl⟩ := hd; exact ⟨c0, c1⟩) (fun w1 hd hs => ?_)
                obtain ⟨nq, rfl⟩ := hd
                refine Z_takeD 0 (some 71) (v := ?_) rfl rfl (by kernel_rfl) (fun _ _ _ h => h) (by rfl) hs ?_ ?_
                rotate_left
                · intro wx hx; obtain ⟨s1, s2⟩ := hx; go_simp; try with_reducible rfl
                simp only [Act.put, List.setIfInBounds_toArray, List.set_cons_succ, List.set_cons_zero]
                refine Z_takeD 1 (some 72) (v := ?_) rfl rfl (by kernel_rfl) (fun _ _ _ h => h) (by rfl) hs ?_ ?_
                rotate_left
                · intro wx hx; obtain ⟨s1, s2⟩ := hx; go_simp; try with_reducible rfl
                simp only [Act.put, List.setIfInBounds_toArray, List.set_cons_succ, List.set_cons_zero]
                refine Z_takeD 2 (some 73) (v := ?_) rfl rfl (by kernel_rfl) (fun _ _ _ h => h) (by rfl) hs ?_ ?_
                rotate_left
                · intro wx hx; obtain ⟨s1, s2⟩ := hx; go_simp; try with_reducible rfl
                simp only [Act.put, List.setIfInBounds_toArray, List.set_cons_succ, List.set_cons_zero]
                refine Z_takeD 3 (some 74) (v := ?_) rfl rfl (by kernel_rfl) (fun _ _ _ h => h) (by rfl) hs ?_ ?_
                rotate_left
                · intro wx hx; obtain ⟨s1, s2⟩ := hx; go_simp; try with_reducible rfl
                simp only [Act.put, List.setIfInBounds_toArray, List.set_cons_succ, List.set_cons_zero]
                refine Z_takeD 4 (some 75) (v := ?_) rfl rfl (by kernel_rfl) (fun _ _ _ h => h) (by rfl) hs ?_ ?_
                rotate_left
                · intro wx hx; obtain ⟨s1, s2⟩ := hx; go_simp; try with_reducible rfl
                simp only [Act.put, List.setIfInBounds_toArray, List.set_cons_succ, List.set_cons_zero]
                refine Z_takeD 5 (some 76) (v := ?_) rfl rfl (by kernel_rfl) (fun _ _ _ h => h) (by rfl) hs ?_ ?_
                rotate_left
                · intro wx hx; obtain ⟨s1, s2⟩ := hx; go_simp; try with_reducible rfl
                simp only [Act.put, List.setIfInBounds_toArray, List.set_cons_succ, List.set_cons_zero]
                refine Z_takeD 6 (some 77) (v := ?_) rfl rfl (by kernel_rfl) (fun _ _ _ h => h) (by rfl) hs ?_ ?_
                rotate_left
                · intro wx hx; obtain ⟨s1, s2⟩ := hx; go_simp; try with_reducible rfl
                simp only [Act.put, List.setIfInBounds_toArray, List.set_cons_succ, List.set_cons_zero]
                refine Z_takeD 7 (some 78) (v := ?_) rfl rfl (by kernel_rfl) (fun _ _ _ h => h) (by rfl) hs ?_ ?_
                rotate_left
                · intro wx hx; obtain ⟨s1, s2⟩ := hx; go_simp; try with_reducible rfl
                simp only [Act.put, List.setIfInBounds_toArray, List.set_cons_succ, List.set_cons_zero]
                refine Z_takeD 8 (some 79) (v := ?_) rfl rfl (by kernel_rfl) (fun _ _ _ h => h) (by rfl) hs ?_ ?_
                rotate_left
                · intro wx hx; obtain ⟨s1, s2⟩ := hx; go_simp; try with_reducible rfl
                simp only [Act.put, List.setIfInBounds_toArray, List.set_cons_succ, List.set_cons_zero]
                refine Z_takeD 9 (some 80) (v := ?_) rfl rfl (by kernel_rfl) (fun _ _ _ h => h) (by rfl) hs ?_ ?_
                rotate_left
                · intro wx hx; obtain ⟨s1, s2⟩ := hx; go_simp; try with_reducible rfl
                simp only [Act.put, List.setIfInBounds_toArray, List.set_cons_succ, List.set_cons_zero]
                refine Z_skipD 10 (some 81) rfl rfl (by kernel_rfl) (fun _ _ _ h => h) (by rfl) hs ?_
                simp only [Act.put, List.setIfInBounds_toArray, List.set_cons_succ, List.set_cons_zero]
                refine Z_skipD 11 (some 82) rfl rfl (by kernel_rfl) (fun _ _ _ h => h) (by rfl) hs ?_
                simp only [Act.put, List.setIfInBounds_toArray, List.set_cons_succ, List.set_cons_zero]
                refine Z_skipD 12 (some 83) rfl rfl (by kernel_rfl) (fun _ _ _ h => h) (by rfl) hs ?_
                simp only [Act.put, List.setIfInBounds_toArray, List.set_cons_succ, List.set_cons_zero]
                refine Z_skipD 13 (some 84) rfl rfl (by kernel_rfl) (fun _ _ _ h => h) (by rfl) hs ?_
                simp only [Act.put, List.setIfInBounds_toArray, List.set_cons_succ, List.set_cons_zero]
                refine Z_skipD 14 (some 85) rfl rfl (by kernel_rfl) (fun _ _ _ h => h) (by rfl) hs ?_
                simp only [Act.put, List.setIfInBounds_toArray, List.set_cons_succ, List.set_cons_zero]
                refine Z_skipD 15 (some 86) rfl rfl (by kernel_rfl) (fun _ _ _ h => h) (by rfl) hs ?_
                simp only [Act.put, List.setIfInBounds_toArray, List.set_cons_succ, List.set_cons_zero]
                refine Z_skipD 16 (some 87) rfl rfl (by kernel_rfl) (fun _ _ _ h => h) (by rfl) hs ?_
                simp only [Act.put, List.setIfInBounds_toArray, List.set_cons_succ, List.set_cons_zero]
                refine Z_skipD 17 (some 88) rfl rfl (by kernel_rfl) (fun _ _ _ h => h) (by rfl) hs ?_
                simp only [Act.put, List.setIfInBounds_toArray, List.set_cons_succ, List.set_cons_zero]
                refine Z_skipD 18 (some 89) rfl rfl (by kernel_rfl) (fun _ _ _ h => h) (by rfl) hs ?_
                simp only [Act.put, List.setIfInBounds_toArray, List.set_cons_succ, List.set_cons_zero]
                refine Z_skipD 19 (some 90) rfl rfl (by kernel_rfl) (fun _ _ _ h => h) (by rfl) hs ?_
                simp only [Act.put, List.setIfInBounds_toArray, List.set_cons_succ, List.set_cons_zero]
                refine Z_skipD 20 (some 91) rfl rfl (by kernel_rfl) (fun _ _ _ h => h) (by rfl) hs ?_
                simp only [Act.put, List.setIfInBounds_toArray, List.set_cons_succ, List.set_cons_zero]
                refine Z_skipD 21 (some 92) rfl rfl (by kernel_rfl) (fun _ _ _ h => h) (by rfl) hs ?_
                simp only [Act.put, List.setIfInBounds_toArray, List.set_cons_succ, List.set_cons_zero]
                refine Z_skipD 22 (some 93) rfl rfl (by kernel_rfl) (fun _ _ _ h => h) (by rfl) hs ?_
                simp only [Act.put, List.setIfInBounds_toArray, List.set_cons_succ, List.set_cons_zero]
                refine Z_skipD 23 (some 94) rfl rfl (by kernel_rfl) (fun _ _ _ h => h) (by rfl) hs ?_
                simp only [Act.put, List.setIfInBounds_toArray, List.set_cons_succ, List.set_cons_zero]
                refine Z_skipD 24 (some 95) rfl rfl (by kernel_rfl) (fun _ _ _ h => h) (by rfl) hs ?_
                simp only [Act.put, List.setIfInBounds_toArray, List.set_cons_succ, List.set_cons_zero]
                refine Z_skipD 25 (some 96) rfl rfl (by kernel_rfl) (fun _ _ _ h => h) (by rfl) hs ?_
                simp only [Act.put, List.setIfInBounds_toArray, List.set_cons_succ, List.set_cons_zero]
                refine Z_skipD 26 (some 97) rfl rfl (by kernel_rfl) (fun _ _ _ h => h) (by rfl) hs ?_
                simp only [Act.put, List.setIfInBounds_toArray, List.set_cons_succ, List.set_cons_zero]
                refine Z_skipD 27 (some 98) rfl rfl (by kernel_rfl) (fun _ _ _ h => h) (by rfl) hs ?_
                simp only [Act.put, List.setIfInBounds_toArray, List.set_cons_succ, List.set_cons_zero]
                refine Z_skipD 28 (some 99) rfl rfl (by kernel_rfl) (fun _ _ _ h => h) (by rfl) hs ?_
                simp only [Act.put, List.setIfInBounds_toArray, List.set_cons_succ, List.set_cons_zero]
                refine Z_skipD 29 (some 100) rfl rfl (by kernel_rfl) (fun _ _ _ h => h) (by rfl) hs ?_
                simp only [Act.put, List.setIfInBounds_toArray, List.set_cons_succ, List.set_cons_zero]
                refine Z_takeD 30 (some 101) (v := ?_) rfl rfl (by kernel_rfl) (fun _ _ _ h => h) (by rfl) hs ?_ ?_
                rotate_left
                · intro wx hx; obtain ⟨s1, s2⟩ := hx; go_simp; try with_reducible rfl
                simp only [Act.put, List.setIfInBounds_toArray, List.set_cons_succ, List.set_cons_zero]
                refine Z_takeD 31 (some 102) (v := ?_) rfl rfl (by kernel_rfl) (fun _ _ _ h => h) (by rfl) hs ?_ ?_
                rotate_left
                · intro wx hx; obtain ⟨s1, s2⟩ := hx; go_simp; try with_reducible rfl
                simp only [Act.put, List.setIfInBounds_toArray, List.set_cons_succ, List.set_cons_zero]
                refine Z_skipD 32 (some 103) rfl rfl (by kernel_rfl) (fun _ _ _ h => h) (by rfl) hs ?_
                simp only [Act.put, List.setIfInBounds_toArray, List.set_cons_succ, List.set_cons_zero]
                refine Z_skipD 33 (some 104) rfl rfl (by kernel_rfl) (fun _ _ _ h => h) (by rfl) hs ?_
                simp only [Act.put, List.setIfInBounds_toArray, List.set_cons_succ, List.set_cons_zero]
                refine Z_skipD 34 (some 105) rfl rfl (by kernel_rfl) (fun _ _ _ h => h) (by rfl) hs ?_
                simp only [Act.put, List.setIfInBounds_toArray, List.set_cons_succ, List.set_cons_zero]
                refine Z_skipD 35 (some 106) rfl rfl (by kernel_rfl) (fun _ _ _ h => h) (by rfl) hs ?_
                simp only [Act.put, List.setIfInBounds_toArray, List.set_cons_succ, List.set_cons_zero]
                refine Z_skipD 36 (some 107) rfl rfl (by kernel_rfl) (fun _ _ _ h => h) (by rfl) hs ?_
                simp only [Act.put, List.setIfInBounds_toArray, List.set_cons_succ, List.set_cons_zero]
                refine Z_skipD 37 (some 108) rfl rfl (by kernel_rfl) (fun _ _ _ h => h) (by rfl) hs ?_
                simp only [Act.put, List.setIfInBounds_toArray, List.set_cons_succ, List.set_cons_zero]
                refine Z_skipD 38 (some 109) rfl rfl (by kernel_rfl) (fun _ _ _ h => h) (by rfl) hs ?_
                simp only [Act.put, List.setIfInBounds_toArray, List.set_cons_succ, List.set_cons_zero]
                refine Z_skipD 39 (some 110) rfl rfl (by kernel_rfl) (fun _ _ _ h => h) (by rfl) hs ?_
                simp only [Act.put, List.setIfInBounds_toArray, List.set_cons_succ, List.set_cons_zero]
                refine Z_skipD 40 (some 111) rfl rfl (by kernel_rfl) (fun _ _ _ h => h) (by rfl) hs ?_
                simp only [Act.put, List.setIfInBounds_toArray, List.set_cons_succ, List.set_cons_zero]
                refine Z_skipD 41 (some 112) rfl rfl (by kernel_rfl) (fun _ _ _ h => h) (by rfl) hs ?_
                simp only [Act.put, List.setIfInBounds_toArray, List.set_cons_succ, List.set_cons_zero]
                refine Z_skipD 42 (some 113) rfl rfl (by kernel_rfl) (fun _ _ _ h => h) (by rfl) hs ?_
                simp only [Act.put, List.setIfInBounds_toArray, List.set_cons_succ, List.set_cons_zero]
                refine Z_skipD 43 (some 114) rfl rfl (by kernel_rfl) (fun _ _ _ h => h) (by rfl) hs ?_
                simp only [Act.put, List.setIfInBounds_toArray, List.set_cons_succ, List.set_cons_zero]
                refine Z_takeD 44 (some 115) (v := ?_) rfl rfl (by kernel_rfl) (fun _ _ _ h => h) (by rfl) hs ?_ ?_
                rotate_left
                · intro wx hx; obtain ⟨s1, s2⟩ := hx; go_simp; try with_reducible rfl
                simp only [Act.put, List.setIfInBounds_toArray, List.set_cons_succ, List.set_cons_zero]
                refine Z_takeD 45 (some 116) (v := ?_) rfl rfl (by kernel_rfl) (fun _ _ _ h => h) (by rfl) hs ?_ ?_
                rotate_left
                · intro wx hx; obtain ⟨s1, s2⟩ := hx; go_simp; try with_reducible rfl
                simp only [Act.put, List.setIfInBounds_toArray, List.set_cons_succ, List.set_cons_zero]
                refine Z_done (by kernel_rfl) ?_ _
                rw [World.drewN_drewN] at *
                have e0 := hs.1
                have e1 := hs.2
                clear hs c0 c1
                go_wp2_with fail
                go_roundw
                case rel => exact ⟨k + 1, q2 + nq, by omega, by go_num, by rw [HSK.out, hww], rfl⟩
                case measure => simp [intOf]; omega
              · have hk0 : decide ((0 : Int) < (k : Int)) = true := decide_eq_true (by omega)
                have hk1 : decide (0 < k) = true := decide_eq_true (by omega)
                have hkp : k - 1 < rs.length := by omega
                have hkm : (k : Int) - 1 = ((k - 1 : Nat) : Int) := by omega
                have hkw : IntKind.i64.wrap ((k - 1 : Nat) : Int) = ((k - 1 : Nat) : Int) := by simp only [IntKind.wrap, IntKind.signed, IntKind.bits]; simp; omega
                have hcs2 := cells_runs rfl ht hkp
                have d0 : w4.cell? ⟨g4, (k - 1) * 2, none⟩ = some (.int .u64 rs[k - 1].1) := (hH4.hcell _).trans hcs2.1
                have d1 : w4.cell? ⟨g4, (k - 1) * 2 + 1, none⟩ = some (.int .i64 rs[k - 1].2) := (hH4.hcell _).trans hcs2.2
                have hb2 := HRB.out rs[k - 1] (List.getElem_mem _)
                have hga := HGAP.out (k - 1) (by omega)
                have hke : rs[k - 1 + 1]'(by omega) = rs[k] := by congr 1; omega
                rw [hke] at hga
                clear hsk hcs hcs2 ht hf hs hke
                generalize sumR (rs.take k) = sk at *
                generalize rs[k] = rk at *
                generalize rs[k - 1] = rj at *
                obtain ⟨x1, x2⟩ := rk
                obtain ⟨y1, y2⟩ := rj
                simp only at c0 c1 d0 d1 hsb hsb2 hww hp1 HSK hb hb2 hga
                have hwy : IntKind.u64.wrap (y1 + IntKind.u64.wrap y2) = y1 + y2 := by rw [IntKind.wrap_u64, IntKind.wrap_u64]; omega
                have hny : decide (x1 ≤ y1 + y2) = false := decide_eq_false (by omega)
                clear hsb hsb2 hsl hb hb2 hga
                have hk01 : 0 < (k : Int) := by omega
                clear h0
                go_upto_region 23 with fail
                refine Z_begin (fun wx => wx.cell? ⟨g4, k * 2, none⟩ = some (.int .u64 x1) ∧ wx.cell? ⟨g4, k * 2 + 1, none⟩ = some (.int .i64 x2) ∧ wx.cell? ⟨g4, (k - 1) * 2, none⟩ = some (.int .u64 y1) ∧ wx.cell? ⟨g4, (k - 1) * 2 + 1, none⟩ = some (.int .i64 y2)) 46 (by kernel_rfl) (fun w1 hd => by obtain ⟨q, rfl⟩ := hd; exact ⟨c0, c1, d0, d1⟩) (fun w1 hd hs => ?_)
                obtain ⟨nq, rfl⟩ := hd
                refine Z_takeD 0 (some 71) (v := ?_) rfl rfl (by kernel_rfl) (fun _ _ _ h => h) (by rfl) hs ?_ ?_
                rotate_left
                · intro wx hx; obtain ⟨s1, s2, s3, s4⟩ := hx; go_simp; try with_reducible rfl
                simp only [Act.put, List.setIfInBounds_toArray, List.set_cons_succ, List.set_cons_zero]
                refine Z_takeD 1 (some 72) (v := ?_) rfl rfl (by kernel_rfl) (fun _ _ _ h => h) (by rfl) hs ?_ ?_
                rotate_left
                · intro wx hx; obtain ⟨s1, s2, s3, s4⟩ := hx; go_simp; try with_reducible rfl
                simp only [Act.put, List.setIfInBounds_toArray, List.set_cons_succ, List.set_cons_zero]
                refine Z_takeD 2 (some 73) (v := ?_) rfl rfl (by kernel_rfl) (fun _ _ _ h => h) (by rfl) hs ?_ ?_
                rotate_left
                · intro wx hx; obtain ⟨s1, s2, s3, s4⟩ := hx; go_simp; try with_reducible rfl
                simp only [Act.put, List.setIfInBounds_toArray, List.set_cons_succ, List.set_cons_zero]
                refine Z_takeD 3 (some 74) (v := ?_) rfl rfl (by kernel_rfl) (fun _ _ _ h => h) (by rfl) hs ?_ ?_
                rotate_left
                · intro wx hx; obtain ⟨s1, s2, s3, s4⟩ := hx; go_simp; try with_reducible rfl
                simp only [Act.put, List.setIfInBounds_toArray, List.set_cons_succ, List.set_cons_zero]
                refine Z_takeD 4 (some 75) (v := ?_) rfl rfl (by kernel_rfl) (fun _ _ _ h => h) (by rfl) hs ?_ ?_
                rotate_left
                · intro wx hx; obtain ⟨s1, s2, s3, s4⟩ := hx; go_simp; try with_reducible rfl
                simp only [Act.put, List.setIfInBounds_toArray, List.set_cons_succ, List.set_cons_zero]
                refine Z_takeD 5 (some 76) (v := ?_) rfl rfl (by kernel_rfl) (fun _ _ _ h => h) (by rfl) hs ?_ ?_
                rotate_left
                · intro wx hx; obtain ⟨s1, s2, s3, s4⟩ := hx; go_simp; try with_reducible rfl
                simp only [Act.put, List.setIfInBounds_toArray, List.set_cons_succ, List.set_cons_zero]
                refine Z_takeD 6 (some 77) (v := ?_) rfl rfl (by kernel_rfl) (fun _ _ _ h => h) (by rfl) hs ?_ ?_
                rotate_left
                · intro wx hx; obtain ⟨s1, s2, s3, s4⟩ := hx; go_simp; try with_reducible rfl
                simp only [Act.put, List.setIfInBounds_toArray, List.set_cons_succ, List.set_cons_zero]
                refine Z_takeD 7 (some 78) (v := ?_) rfl rfl (by kernel_rfl) (fun _ _ _ h => h) (by rfl) hs ?_ ?_
                rotate_left
                · intro wx hx; obtain ⟨s1, s2, s3, s4⟩ := hx; go_simp; try with_reducible rfl
                simp only [Act.put, List.setIfInBounds_toArray, List.set_cons_succ, List.set_cons_zero]
                refine Z_takeD 8 (some 79) (v := ?_) rfl rfl (by kernel_rfl) (fun _ _ _ h => h) (by rfl) hs ?_ ?_
                rotate_left
                · intro wx hx; obtain ⟨s1, s2, s3, s4⟩ := hx; go_simp; try with_reducible rfl
                simp only [Act.put, List.setIfInBounds_toArray, List.set_cons_succ, List.set_cons_zero]
                refine Z_takeD 9 (some 80) (v := ?_) rfl rfl (by kernel_rfl) (fun _ _ _ h => h) (by rfl) hs ?_ ?_
                rotate_left
                · intro wx hx; obtain ⟨s1, s2, s3, s4⟩ := hx; go_simp; try with_reducible rfl
                simp only [Act.put, List.setIfInBounds_toArray, List.set_cons_succ, List.set_cons_zero]
                refine Z_takeD 10 (some 81) (v := ?_) rfl rfl (by kernel_rfl) (fun _ _ _ h => h) (by rfl) hs ?_ ?_
                rotate_left
                · intro wx hx; obtain ⟨s1, s2, s3, s4⟩ := hx; go_simp; try with_reducible rfl
                simp only [Act.put, List.setIfInBounds_toArray, List.set_cons_succ, List.set_cons_zero]
                refine Z_takeD 11 (some 82) (v := ?_) rfl rfl (by kernel_rfl) (fun _ _ _ h => h) (by rfl) hs ?_ ?_
                rotate_left
                · intro wx hx; obtain ⟨s1, s2, s3, s4⟩ := hx; go_simp; try with_reducible rfl
                simp only [Act.put, List.setIfInBounds_toArray, List.set_cons_succ, List.set_cons_zero]
                refine Z_takeD 12 (some 83) (v := ?_) rfl rfl (by kernel_rfl) (fun _ _ _ h => h) (by rfl) hs ?_ ?_
                rotate_left
                · intro wx hx; obtain ⟨s1, s2, s3, s4⟩ := hx; go_simp; try with_reducible rfl
                simp only [Act.put, List.setIfInBounds_toArray, List.set_cons_succ, List.set_cons_zero]
                refine Z_takeD 13 (some 84) (v := ?_) rfl rfl (by kernel_rfl) (fun _ _ _ h => h) (by rfl) hs ?_ ?_
                rotate_left
                · intro wx hx; obtain ⟨s1, s2, s3, s4⟩ := hx; go_simp; try with_reducible rfl
                simp only [Act.put, List.setIfInBounds_toArray, List.set_cons_succ, List.set_cons_zero]
                refine Z_takeD 14 (some 85) (v := ?_) rfl rfl (by kernel_rfl) (fun _ _ _ h => h) (by rfl) hs ?_ ?_
                rotate_left
                · intro wx hx; obtain ⟨s1, s2, s3, s4⟩ := hx; go_simp; try with_reducible rfl
                simp only [Act.put, List.setIfInBounds_toArray, List.set_cons_succ, List.set_cons_zero]
                refine Z_takeD 15 (some 86) (v := ?_) rfl rfl (by kernel_rfl) (fun _ _ _ h => h) (by rfl) hs ?_ ?_
                rotate_left
                · intro wx hx; obtain ⟨s1, s2, s3, s4⟩ := hx; go_simp; try with_reducible rfl
                simp only [Act.put, List.setIfInBounds_toArray, List.set_cons_succ, List.set_cons_zero]
                refine Z_takeD 16 (some 87) (v := ?_) rfl rfl (by kernel_rfl) (fun _ _ _ h => h) (by rfl) hs ?_ ?_
                rotate_left
                · intro wx hx; obtain ⟨s1, s2, s3, s4⟩ := hx; go_simp; try with_reducible rfl
                simp only [Act.put, List.setIfInBounds_toArray, List.set_cons_succ, List.set_cons_zero]
                refine Z_takeD 17 (some 88) (v := ?_) rfl rfl (by kernel_rfl) (fun _ _ _ h => h) (by rfl) hs ?_ ?_
                rotate_left
                · intro wx hx; obtain ⟨s1, s2, s3, s4⟩ := hx; go_simp; try with_reducible rfl
                simp only [Act.put, List.setIfInBounds_toArray, List.set_cons_succ, List.set_cons_zero]
                refine Z_takeD 18 (some 89) (v := ?_) rfl rfl (by kernel_rfl) (fun _ _ _ h => h) (by rfl) hs ?_ ?_
                rotate_left
                · intro wx hx; obtain ⟨s1, s2, s3, s4⟩ := hx; go_simp; try with_reducible rfl
                simp only [Act.put, List.setIfInBounds_toArray, List.set_cons_succ, List.set_cons_zero]
                refine Z_takeD 19 (some 90) (v := ?_) rfl rfl (by kernel_rfl) (fun _ _ _ h => h) (by rfl) hs ?_ ?_
                rotate_left
                · intro wx hx; obtain ⟨s1, s2, s3, s4⟩ := hx; go_simp; try with_reducible rfl
                simp only [Act.put, List.setIfInBounds_toArray, List.set_cons_succ, List.set_cons_zero]
                refine Z_takeD 20 (some 91) (v := ?_) rfl rfl (by kernel_rfl) (fun _ _ _ h => h) (by rfl) hs ?_ ?_
                rotate_left
                · intro wx hx; obtain ⟨s1, s2, s3, s4⟩ := hx; go_simp; try with_reducible rfl
                simp only [Act.put, List.setIfInBounds_toArray, List.set_cons_succ, List.set_cons_zero]
                refine Z_takeD 21 (some 92) (v := ?_) rfl rfl (by kernel_rfl) (fun _ _ _ h => h) (by rfl) hs ?_ ?_
                rotate_left
                · intro wx hx; obtain ⟨s1, s2, s3, s4⟩ := hx; go_simp; try with_reducible rfl
                simp only [Act.put, List.setIfInBounds_toArray, List.set_cons_succ, List.set_cons_zero]
                refine Z_takeD 22 (some 93) (v := ?_) rfl rfl (by kernel_rfl) (fun _ _ _ h => h) (by rfl) hs ?_ ?_
                rotate_left
                · intro wx hx; obtain ⟨s1, s2, s3, s4⟩ := hx; go_simp; try with_reducible rfl
                simp only [Act.put, List.setIfInBounds_toArray, List.set_cons_succ, List.set_cons_zero]
                refine Z_takeD 23 (some 94) (v := ?_) rfl rfl (by kernel_rfl) (fun _ _ _ h => h) (by rfl) hs ?_ ?_
                rotate_left
                · intro wx hx; obtain ⟨s1, s2, s3, s4⟩ := hx; go_simp; try with_reducible rfl
                simp only [Act.put, List.setIfInBounds_toArray, List.set_cons_succ, List.set_cons_zero]
                refine Z_takeD 24 (some 95) (v := ?_) rfl rfl (by kernel_rfl) (fun _ _ _ h => h) (by rfl) hs ?_ ?_
                rotate_left
                · intro wx hx; obtain ⟨s1, s2, s3, s4⟩ := hx; go_simp; try with_reducible rfl
                simp only [Act.put, List.setIfInBounds_toArray, List.set_cons_succ, List.set_cons_zero]
                refine Z_takeD 25 (some 96) (v := ?_) rfl rfl (by kernel_rfl) (fun _ _ _ h => h) (by rfl) hs ?_ ?_
                rotate_left
                · intro wx hx; obtain ⟨s1, s2, s3, s4⟩ := hx; go_simp; try with_reducible rfl
                simp only [Act.put, List.setIfInBounds_toArray, List.set_cons_succ, List.set_cons_zero]
                refine Z_takeD 26 (some 97) (v := ?_) rfl rfl (by kernel_rfl) (fun _ _ _ h => h) (by rfl) hs ?_ ?_
                rotate_left
                · intro wx hx; obtain ⟨s1, s2, s3, s4⟩ := hx; go_simp; try with_reducible rfl
                simp only [Act.put, List.setIfInBounds_toArray, List.set_cons_succ, List.set_cons_zero]
                refine Z_mid 27 rfl (by kernel_rfl) (fun K hK => ?_)
                have ⟨s1, s2, s3, s4⟩ := hs
                go_simp   -- convert w
                clear s1 s2 s3 s4
                refine hK _ _ (hs) (fun hs2 => ?_); clear hK K hs; have hs := hs2; clear hs2
                refine Z_takeD 28 (some 99) (v := ?_) rfl rfl (by kernel_rfl) (fun _ _ _ h => h) (by rfl) hs ?_ ?_
                rotate_left
                · intro wx hx; obtain ⟨s1, s2, s3, s4⟩ := hx; go_simp; try with_reducible rfl
                simp only [Act.put, List.setIfInBounds_toArray, List.set_cons_succ, List.set_cons_zero]
                refine Z_takeD 29 (some 100) (v := ?_) rfl rfl (by kernel_rfl) (fun _ _ _ h => h) (by rfl) hs ?_ ?_
                rotate_left
                · intro wx hx; obtain ⟨s1, s2, s3, s4⟩ := hx; go_simp; try with_reducible rfl
                simp only [Act.put, List.setIfInBounds_toArray, List.set_cons_succ, List.set_cons_zero]
                refine Z_takeD 30 (some 101) (v := ?_) rfl rfl (by kernel_rfl) (fun _ _ _ h => h) (by rfl) hs ?_ ?_
                rotate_left
                · intro wx hx; obtain ⟨s1, s2, s3, s4⟩ := hx; go_simp; try with_reducible rfl
                simp only [Act.put, List.setIfInBounds_toArray, List.set_cons_succ, List.set_cons_zero]
                refine Z_takeD 31 (some 102) (v := ?_) rfl rfl (by kernel_rfl) (fun _ _ _ h => h) (by rfl) hs ?_ ?_
                rotate_left
                · intro wx hx; obtain ⟨s1, s2, s3, s4⟩ := hx; go_simp; try with_reducible rfl
                simp only [Act.put, List.setIfInBounds_toArray, List.set_cons_succ, List.set_cons_zero]
                refine Z_skipD 32 (some 103) rfl rfl (by kernel_rfl) (fun _ _ _ h => h) (by rfl) hs ?_
                simp only [Act.put, List.setIfInBounds_toArray, List.set_cons_succ, List.set_cons_zero]
                refine Z_skipD 33 (some 104) rfl rfl (by kernel_rfl) (fun _ _ _ h => h) (by rfl) hs ?_
                simp only [Act.put, List.setIfInBounds_toArray, List.set_cons_succ, List.set_cons_zero]
                refine Z_skipD 34 (some 105) rfl rfl (by kernel_rfl) (fun _ _ _ h => h) (by rfl) hs ?_
                simp only [Act.put, List.setIfInBounds_toArray, List.set_cons_succ, List.set_cons_zero]
                refine Z_skipD 35 (some 106) rfl rfl (by kernel_rfl) (fun _ _ _ h => h) (by rfl) hs ?_
                simp only [Act.put, List.setIfInBounds_toArray, List.set_cons_succ, List.set_cons_zero]
                refine Z_skipD 36 (some 107) rfl rfl (by kernel_rfl) (fun _ _ _ h => h) (by rfl) hs ?_
                simp only [Act.put, List.setIfInBounds_toArray, List.set_cons_succ, List.set_cons_zero]
                refine Z_skipD 37 (some 108) rfl rfl (by kernel_rfl) (fun _ _ _ h => h) (by rfl) hs ?_
                simp only [Act.put, List.setIfInBounds_toArray, List.set_cons_succ, List.set_cons_zero]
                refine Z_skipD 38 (some 109) rfl rfl (by kernel_rfl) (fun _ _ _ h => h) (by rfl) hs ?_
                simp only [Act.put, List.setIfInBounds_toArray, List.set_cons_succ, List.set_cons_zero]
                refine Z_skipD 39 (some 110) rfl rfl (by kernel_rfl) (fun _ _ _ h => h) (by rfl) hs ?_
                simp only [Act.put, List.setIfInBounds_toArray, List.set_cons_succ, List.set_cons_zero]
                refine Z_skipD 40 (some 111) rfl rfl (by kernel_rfl) (fun _ _ _ h => h) (by rfl) hs ?_
                simp only [Act.put, List.setIfInBounds_toArray, List.set_cons_succ, List.set_cons_zero]
                refine Z_skipD 41 (some 112) rfl rfl (by kernel_rfl) (fun _ _ _ h => h) (by rfl) hs ?_
                simp only [Act.put, List.setIfInBounds_toArray, List.set_cons_succ, List.set_cons_zero]
                refine Z_skipD 42 (some 113) rfl rfl (by kernel_rfl) (fun _ _ _ h => h) (by rfl) hs ?_
                simp only [Act.put, List.setIfInBounds_toArray, List.set_cons_succ, List.set_cons_zero]
                refine Z_skipD 43 (some 114) rfl rfl (by kernel_rfl) (fun _ _ _ h => h) (by rfl) hs ?_
                simp only [Act.put, List.setIfInBounds_toArray, List.set_cons_succ, List.set_cons_zero]
                refine Z_takeD 44 (some 115) (v := ?_) rfl rfl (by kernel_rfl) (fun _ _ _ h => h) (by rfl) hs ?_ ?_
                rotate_left
                · intro wx hx; obtain ⟨s1, s2, s3, s4⟩ := hx; go_simp; try with_reducible rfl
                simp only [Act.put, List.setIfInBounds_toArray, List.set_cons_succ, List.set_cons_zero]
                refine Z_takeD 45 (some 116) (v := ?_) rfl rfl (by kernel_rfl) (fun _ _ _ h => h) (by rfl) hs ?_ ?_
                rotate_left
                · intro wx hx; obtain ⟨s1, s2, s3, s4⟩ := hx; go_simp; try with_reducible rfl
                simp only [Act.put, List.setIfInBounds_toArray, List.set_cons_succ, List.set_cons_zero]
                refine Z_done (by kernel_rfl) ?_ _
                try rw [World.drewN_drewN] at hs
                try rw [World.drewN_drewN]
                have e0 := hs.1
                have e1 := hs.2.1
                clear hs c0 c1 d0 d1
                go_wp2_with fail
                go_roundw
                case rel => exact ⟨k + 1, q2 + nq, by omega, by go_num, by rw [HSK.out, hww], rfl⟩
                case measure => simp [intOf]; omega
            · have hkl : k = rs.length := by omega
              subst hkl
              rw [List.take_of_length_le (Nat.le_refl _), HSUM.out]
              have HAW := Lib.hid (awake22_any (w4.drewN q2) _ (hH4.right.drewN q2))
              clear HSUM HPOS HGAP HRB hk hlt
              go_wp2_with fail
              refine HAW.out.mono ?_
              rintro e w5 ⟨rfl, hH5, hg5⟩
              clear HAW
              go_wp2_with fail
              go_ret
              exact ⟨rfl, hH5, (HG4.out.drewN q2).trans hg5⟩
end Go.Proofs.Ytdbcmjambajffaa
