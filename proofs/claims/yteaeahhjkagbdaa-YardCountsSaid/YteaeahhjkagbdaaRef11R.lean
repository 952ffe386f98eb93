/-
  sculleryref11: State, page, Needed.
-/
import Derived.Test.YteaeahhjkagbdaaRef11
namespace Go.Proofs.Yteaeahhjkagbdaa
open Go.RowKit
set_option linter.unusedSimpArgs false
set_option linter.unusedVariables false

section
variable {v : Value} {y : List YB} {P : Nat} {H Fr : HL} {w : World}
theorem Ystate_some {y : List YB} {b : Int} {x : YB} (h : Yat y b = some x) : Ystate y b = x.state := by simp [Ystate, h]
theorem Ystate_none {y : List YB} {b : Int} (h : Yat y b = none) : Ystate y b = 0 := by simp [Ystate, h]
set_option maxRecDepth 20000 in
theorem rystate_any (b : Int) (h : IsRY v y P H) (hH : Holds w (H ++ Fr)) : Calls Try.prog 90 #[v, .int .i64 b] w fun e w' => e = .returned (.int .i64 (Ystate y b)) ∧ w = w' := by
  cases ha : Yat y b with
  | none =>
    rw [Ystate_none ha]
    have hn := Yat_none ha
    obtain ⟨p, A, c, rfl, hc1, hc2, hv⟩ := h.view
    obtain ⟨c0, _⟩ := hv w Fr hH
    unfold maxLen at hc2
    clear hv ha h
    generalize y.length = n at *
    by_cases hb : b < 0
    · go_enter Try.func90, Try.ntmps90
      go_wp2_with fail
      go_ret
      exact ⟨rfl, rfl⟩
    · have hb2 : (n : Int) ≤ b := by omega
      go_enter Try.func90, Try.ntmps90
      go_wp2_with fail
      go_ret
      exact ⟨rfl, rfl⟩
  | some x =>
    obtain ⟨k, rfl, hk, hx⟩ := Yat_some ha
    rw [Ystate_some ha]
    obtain ⟨p, gs, cs, gt, ct, gn, cn, gd, cd, pn, pnc, pd, pdc, hA⟩ := h.open_ hx
    obtain rfl := hA.ptr
    obtain ⟨c0, _⟩ := hA.heads w Fr hH
    obtain ⟨d0, _⟩ := hA.cells w Fr hH
    have hbd := hA.bd
    have hcs := hbd.1
    have hcm := hbd.2.1
    unfold maxLen at hcm
    clear hA hbd ha hx h
    generalize x.state = s at *
    generalize y.length = n at *
    go_enter Try.func90, Try.ntmps90
    go_wp2_with fail
    go_ret
    exact ⟨rfl, rfl⟩

/-- page: what it answers -/
def Ypgno (y : List YB) (b n : Int) : Int := match Ypg y b n with | none => 2 | some _ => 0
set_option maxRecDepth 20000 in
theorem rypage_any (b i : Int) (h : IsRY v y P H) (hH : Holds w (H ++ Fr)) : Calls Try.prog 92 #[v, .int .i64 b, .int .i64 i] w fun e w' => e = .returned (.int .i64 (Ypgno y b i)) ∧ w = w' := by
  have HS := Lib.hid (rystate_any (w := w) b h hH)
  obtain ⟨p, A, c, rfl, hc1, hc2, hv⟩ := h.view
  obtain ⟨_, c4⟩ := hv w Fr hH
  have hs := h.small
  cases ha : Yat y b with
  | none =>
    rw [show Ypgno y b i = 2 by simp [Ypgno, Ypg, ha]]
    rw [Ystate_none ha] at HS
    clear ha h hs hv
    go_enter Try.func92, Try.ntmps92
    go_wp2_with fail
    refine HS.out.mono ?_
    rintro e wx ⟨rfl, rfl⟩
    go_wp2_with fail
    go_ret
    exact ⟨rfl, rfl⟩
  | some x =>
    obtain ⟨k, rfl, hk, hx⟩ := Yat_some ha
    have hxo := hs.2.2.2 x (List.mem_of_getElem? hx)
    have hP := hs.2.2.1
    rw [Ystate_some ha] at HS
    have hq : Ypgno y (k : Int) i = if 0 ≤ i ∧ i < (P : Int) then 0 else 2 := by
      unfold Ypgno Ypg
      rw [ha]
      simp only [hxo.2.1]
      by_cases h : 0 ≤ i ∧ i < (P : Int)
      · rw [if_pos h, if_pos h]
      · rw [if_neg h, if_neg h]
    rw [hq]
    have hs1 := hxo.2.2
    have hs0 : (x.state == 0) = false := by simp; omega
    clear ha h hs hv hq hx hxo
    generalize x.state = s at *
    by_cases h1 : i < 0
    · rw [if_neg (by omega)]
      go_enter Try.func92, Try.ntmps92
      go_wp2_with fail
      refine HS.out.mono ?_
      rintro e wx ⟨rfl, rfl⟩
      clear HS
      go_wp2_with fail
      go_ret
      exact ⟨rfl, rfl⟩
    · by_cases h2 : i < (P : Int)
      · rw [if_pos ⟨by omega, h2⟩]
        go_enter Try.func92, Try.ntmps92
        go_wp2_with fail
        refine HS.out.mono ?_
        rintro e wx ⟨rfl, rfl⟩
        clear HS
        go_wp2_with fail
        go_ret
        exact ⟨rfl, rfl⟩
      · rw [if_neg (by omega)]
        go_enter Try.func92, Try.ntmps92
        go_wp2_with fail
        refine HS.out.mono ?_
        rintro e wx ⟨rfl, rfl⟩
        clear HS
        go_wp2_with fail
        go_ret
        exact ⟨rfl, rfl⟩

set_option maxRecDepth 20000 in
set_option maxHeartbeats 1000000 in
theorem ryneeded_any (b : Int) (h : IsRY v y P H) (hH : Holds w (H ++ Fr)) : Calls Try.prog 91 #[v, .int .i64 b] w (RetNew (fun v H => IsNums v (Yneeded y b) H) w (H ++ Fr)) := by
  have HS := Lib.hid (fun (wx : World) (hx : Holds wx (H ++ Fr)) => rystate_any b h hx)
  cases ha : Yat y b with
  | none =>
    rw [show Yneeded y b = [] by simp [Yneeded, ha]]
    rw [Ystate_none ha] at HS
    clear ha h
    go_enter Try.func91, Try.ntmps91
    go_wp2_with fail
    go_loopw [5, 6] (fun ov iv wr => ov = .slice none 0 0 ∧ iv = .int .i64 0 ∧ wr = w) (fun _ _ _ => 0)
    case atStart => exact ⟨rfl, rfl, rfl⟩
    case round =>
      obtain ⟨rfl, rfl, rfl⟩ := hrel
      go_wp2_with fail
      refine (HS.out _ hH).mono ?_
      rintro e wx ⟨rfl, rfl⟩
      go_wp2_with fail
      go_ret
      exact ⟨_, [], rfl, IsRow.nil _ _, hH, Grew.refl _⟩
  | some x =>
    obtain ⟨k0, rfl, hk, hx⟩ := Yat_some ha
    rw [show Yneeded y (k0 : Int) = neededTo x.pages x.pages.length by simp [Yneeded, ha]]
    rw [Ystate_some ha] at HS
    obtain ⟨p, gs, cs, gt, ct, gn, cn, gd, cd, pn, pnc, pd, pdc, hA⟩ := h.open_ hx
    obtain rfl := hA.ptr
    have hbd := hA.bd
    have hok := hA.ok
    have hs0 : (x.state != 0) = true := by have := hok.2.2; simp; omega
    have hpl := hok.2.1
    obtain ⟨_, _, _, _, hb5, hb6, _, _, hb9, hb10, _, _, hkl, hl32, hP1, hP8⟩ := hbd
    unfold maxLen at hb6 hb10
    have HV := Lib.hid (fun (wx : World) (hx : Holds wx (H ++ Fr)) => And.intro (hA.heads wx Fr hx) (hA.rows wx Fr hx).1)
    have HP := Lib.hid (fun (wx : World) (hx : Holds wx (H ++ Fr)) (i : Nat) (q : Bool × Bool) (hq : x.pages[i]? = some q) => (hA.pages wx Fr hx i q hq).1)
    clear ha hA hok hx h
    generalize x.state = s at *
    generalize y.length = n at *
    generalize H ++ Fr = F at *
    rw [hpl]
    go_enter Try.func91, Try.ntmps91
    go_wp2_with fail
    go_loopw [5, 6] (fun ov iv wr => NumsTo (neededTo x.pages) P F w ov iv wr) (fun _ iv _ => P - (intOf iv).toNat)
    case atStart => exact ⟨0, [], by omega, rfl, IsRow.nil _ _, hH, Grew.refl w⟩
    case round =>
      obtain ⟨k, H3, hk, rfl, hn, hHr, hgr⟩ := hrel
      obtain ⟨A3, q3, rfl⟩ := hn.val
      have hnl := neededTo_len x.pages k
      have hsx := neededTo_succ x.pages k
      have HSX := Lib.hid hsx; clear hsx
      have HN := Lib.hid hn; clear hn
      obtain ⟨⟨_, _, c2, _, c4⟩, d2⟩ := HV.out wr hHr.right
      clear hH
      by_cases hlt : k < P
      · have hlt2 : k < x.pages.length := by omega
        have x0 := HP.out wr hHr.right k x.pages[k] (by simp [hlt2])
        have hgd : x.pages.getD k (false, false) = x.pages[k] := by simp [List.getD, hlt2]
        rw [hgd] at HSX
        clear hgd
        generalize x.pages[k] = pg at *
        obtain ⟨nd, dt⟩ := pg
        simp only at x0 HSX
        have hHB := hHr.alloc' (.cells #[.int .i64 (k : Int)] 3)
        have HHB := Lib.hid hHB
        clear hHB
        go_wp2_with fail
        refine (HS.out _ hHr.right).mono ?_
        rintro e wx ⟨rfl, rfl⟩
        cases nd
        · rw [if_neg (by simp)] at HSX
          go_wp2_with fail
          exact ⟨⟨k + 1, H3, by omega, by go_num, by rw [HSX.out]; exact HN.out, hHr, hgr⟩, by simp [intOf]; omega⟩
        · rw [if_pos rfl] at HSX
          go_wp2_with (at_builtin; refine wpList_append_T tInts (by rfl) (.tmp 31) (.tmp 33) (by rfl) (by rfl) (by rfl) HN.out HHB.out (ReadsAt.one' (by simp)) (by simp [Value.oneCell']) (by simp [maxLen]; omega) (by omega) ?_; intro A' c' w' H' hrow hH5 hg5)
          have hfin : NumsTo (neededTo x.pages) P F w (.slice A' ((neededTo x.pages k).length + 1) c') (.int .i64 ((k : Int) + 1)) w' := by
            refine ⟨k + 1, H', by omega, by go_num, ?_, hH5, (hgr.alloc _).trans hg5⟩
            rw [HSX.out]
            unfold IsNums
            rw [List.length_append, List.map_append]
            exact hrow
          have HFIN := Lib.hid hfin
          clear hfin hrow hH5 hg5
          go_wp2_with fail
          exact ⟨HFIN.out, by simp [intOf]; omega⟩
      · obtain rfl : k = P := by omega
        go_wp2_with fail
        refine (HS.out _ hHr.right).mono ?_
        rintro e wx ⟨rfl, rfl⟩
        go_wp2_with fail
        go_ret
        exact ⟨_, H3, rfl, HN.out, hHr, hgr⟩
end
end Go.Proofs.Yteaeahhjkagbdaa
