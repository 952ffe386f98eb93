/-
  Package yard: Dirty, List, Next, Free.
-/
import Derived.Test.YteaeahhjkagbdaaYd4
namespace Go.Proofs.Yteaeahhjkagbdaa
open Go.RowKit
set_option linter.unusedSimpArgs false
set_option linter.unusedVariables false

def Ynext (y : List YB) (b : Int) : List YB × Int × Int := match Yat y b with
  | none => (y, 0, 2)
  | some x => if x.state ≠ 2 then (y, 0, 9) else if (x.pages.length : Int) ≤ x.taken then (y, 0, 7) else (Yset y b { x with taken := x.taken + 1 }, x.taken, 0)
def Yfree (y : List YB) (b : Int) : List YB × Int := match Yat y b with
  | none => (y, 2)
  | some x => if (x.state ≠ 2 ∧ x.state ≠ 3) ∨ Yneeded y b ≠ [] then (y, 9) else (Yset y b { x with state := 1, taken := 0 }, 0)
/-- returned a number and an error -/
def RetYNE (v : Value) (r : List YB × Int × Int) (w : World) (Fr : HL) (e : Ending) (w' : World) : Prop := ∃ ve H He, e = .returned (.tuple #[.int .i64 r.2.1, ve]) ∧ IsErr ve r.2.2 He ∧ IsYard v r.1 H ∧ Holds w' (H ++ (He ++ Fr)) ∧ Grew w w'

section
variable {v : Value} {y : List YB} {H Fr : HL} {w : World}
set_option maxRecDepth 20000 in
set_option maxHeartbeats 1000000 in
theorem ydirty_any (b : Int) (h : IsYard v y H) (hH : Holds w (H ++ Fr)) : Calls Try.prog 56 #[v, .int .i64 b] w (RetFr (.int .i64 (Ydirty y b)) w (H ++ Fr)) := by
  cases ha : Yat y b with
  | none =>
    rw [show Ydirty y b = 0 by simp [Ydirty, ha]]
    have HN := Lib.hid (yat_no (w := w) b h hH (Yat_none ha))
    have hne := err_ne
    clear ha h
    go_enter Try.func56, Try.ntmps56
    go_wp2_with fail
    refine HN.out.mono fun e w1 hr => ?_
    obtain ⟨be, se, rfl, hH1, hg1⟩ := hr.lit (by decide)
    have HH1 := Lib.hid hH1
    clear HN hH1 hr
    go_wp2_with fail
    go_ret
    exact ⟨rfl, HH1.out.tail, hg1⟩
  | some x =>
    obtain ⟨k0, rfl, hk, hx⟩ := Yat_some ha
    rw [show Ydirty y (k0 : Int) = (dirtyTo x.pages x.pages.length : Int) by simp [Ydirty, ha]]
    have hy := h.small.1
    obtain ⟨p, g, cap, gp, cp, rfl, hc1, hc2, _, hxo, hcells, hse1, hse2, hse3⟩ := h.open_ hx
    obtain ⟨c0, c1, c2, c3, f1, f2, hrd⟩ := hcells w Fr hH
    clear hse1 hse2 hse3 hrd
    have hx8 : x.pages.length ≤ 8 := hxo.2.2.1
    have HA := Lib.hid (yat_yes k0 w hk hy hc1 c0)
    have hnn := nil_ne
    have HV := Lib.hid (fun wx hx => (hcells wx Fr hx).2.2.2.2.2.2)
    clear ha hx hcells h hxo
    generalize H ++ Fr = F at *
    go_enter Try.func56, Try.ntmps56
    go_wp2_with fail
    refine HA.out.mono ?_
    rintro e w1 ⟨rfl, rfl⟩
    clear HA
    go_wp2_with fail
    go_loopw [7, 23] (fun ov iv wr => CountTo (dirtyTo x.pages) x.pages.length F w ov iv wr) (fun _ iv _ => x.pages.length - (intOf iv).toNat)
    case atStart => exact ⟨0, by omega, rfl, rfl, hH, Grew.refl w⟩
    case round =>
      obtain ⟨k, hk, rfl, rfl, hHr, hgr⟩ := hrel
      have hnl := dirtyTo_len x.pages k
      have hsx := dirtyTo_succ x.pages k
      have HSX := Lib.hid hsx; clear hsx
      generalize hdk : dirtyTo x.pages k = dk at *
      have HDK := Lib.hid hdk; clear hdk
      by_cases hlt : k < x.pages.length
      · obtain ⟨_, A', c', hv, _, _, hrd⟩ := HV.out wr hHr
        injection hv with hv1 _ hv3
        subst hv1 hv3
        obtain ⟨b3, o3, hb3, hcell⟩ := hrd (by omega)
        injection hb3 with hb3
        injection hb3 with hb3 ho3
        subst hb3 ho3
        obtain ⟨x0, x1⟩ := page_cell hcell hlt
        rw [Nat.zero_add] at x0 x1
        have hgd : x.pages.getD k (false, false) = x.pages[k] := by simp [List.getD, hlt]
        rw [hgd] at HSX
        clear hcell hrd hgd
        generalize x.pages[k] = pg at *
        obtain ⟨nd, dt⟩ := pg
        simp only at x0 x1 HSX
        have hHA := hHr.alloc' (.cells #[.bool nd, .bool dt] 140)
        have hGA := hgr.alloc (.cells #[.bool nd, .bool dt] 140)
        have HHA := Lib.hid hHA
        clear hHA
        cases dt
        · rw [if_neg (by simp)] at HSX
          go_wp2_with fail
          exact ⟨⟨k + 1, by omega, by go_num, by rw [HSX.out], HHA.out, hGA⟩, by simp [intOf]; omega⟩
        · rw [if_pos rfl] at HSX
          go_wp2_with fail
          exact ⟨⟨k + 1, by omega, by go_num, by rw [HSX.out]; go_num, HHA.out, hGA⟩, by simp [intOf]; omega⟩
      · obtain rfl : k = x.pages.length := by omega
        go_wp2_with fail
        go_ret
        exact ⟨by show Ending.returned (.int .i64 (dk : Int)) = _; rw [HDK.out], hHr, hgr⟩

theorem ylist_nil (s : Int) (w : World) : Calls Try.prog 61 #[.pointer none, .int .i64 s] w fun e w' => e = .returned (.slice none 0 0) ∧ w = w' := by
  go_enter Try.func61, Try.ntmps61
  go_wp2
  go_ret
  exact ⟨rfl, rfl⟩
set_option maxRecDepth 20000 in
set_option maxHeartbeats 1000000 in
theorem ylist_any (s : Int) (h : IsYard v y H) (hH : Holds w (H ++ Fr)) : Calls Try.prog 61 #[v, .int .i64 s] w (RetNew (fun v H => IsNums v (listTo y s y.length) H) w (H ++ Fr)) := by
  have hy := h.small.1
  have hview := h.view
  obtain ⟨p, A, c, rfl, hc1, hc2, hview⟩ := hview
  have c0 := hview w Fr hH
  have HV := Lib.hid (fun (k : Nat) (x : YB) (hx : y[k]? = some x) => h.open_ hx)
  have HC := Lib.hid (fun wx hx => hview wx Fr hx)
  clear h hview
  go_enter Try.func61, Try.ntmps61
  go_wp2_with fail
  go_loopw [5, 15] (fun ov iv wr => NumsTo (listTo y s) y.length (H ++ Fr) w ov iv wr) (fun _ iv _ => y.length - (intOf iv).toNat)
  case atStart => exact ⟨0, [], by omega, rfl, IsRow.nil _ _, hH, Grew.refl w⟩
  case round =>
    obtain ⟨k, H3, hk, rfl, hn, hHr, hgr⟩ := hrel
    obtain ⟨A3, q3, rfl⟩ := hn.val
    have hnl := listTo_len y s k
    have hsx := listTo_succ y s k
    have HSX := Lib.hid hsx; clear hsx
    have HN := Lib.hid hn; clear hn
    by_cases hlt : k < y.length
    · have hgd : y.getD k ⟨0, 0, []⟩ = y[k] := by simp [List.getD, hlt]
      rw [hgd] at HSX
      obtain ⟨p', g, cap, gp, cp, hp', _, _, _, hxo, hcells, hse1, hse2, hse3⟩ := HV.out k y[k] (by simp [hlt])
      injection hp' with hp'
      injection hp' with hp'
      injection hp' with hp'
      subst hp'
      obtain ⟨c0', c1, c2, c3, f1, f2, hrd⟩ := hcells wr Fr hHr.right
      have hcc := HC.out wr hHr.right
      rw [hcc] at c0'
      injection c0' with c0'
      injection c0' with c0' _ cc'
      subst c0' cc'
      clear hcells hse1 hse2 hse3 hrd hcc hgd hxo f1 f2
      generalize y[k] = x at *
      obtain ⟨xs, xt, ps⟩ := x
      simp only at c1 c2 c3 HSX
      have hHA := hHr.alloc' (.cells #[.int .i64 xs, .int .i64 xt, .slice (some ⟨gp, 0, none⟩) ps.length cp] 131)
      have hGA := hgr.alloc (.cells #[.int .i64 xs, .int .i64 xt, .slice (some ⟨gp, 0, none⟩) ps.length cp] 131)
      have hHB := hHA.alloc' (.cells #[.int .i64 (k : Int)] 3)
      have HHA := Lib.hid hHA
      have HHB := Lib.hid hHB
      clear hHA hHB
      by_cases hs : xs = s
      · rw [if_pos hs] at HSX
        subst hs
        go_wp2_with (at_builtin; refine wpList_append_T tInts (by rfl) (.tmp 24) (.tmp 26) (by rfl) (by rfl) (by rfl) HN.out HHB.out (ReadsAt.one' (by simp)) (by simp [Value.oneCell']) (by simp [maxLen]; omega) (by omega) ?_; intro A' c' w' H' hrow hH5 hg5)
        have hfin : NumsTo (listTo y xs) y.length (H ++ Fr) w (.slice A' ((listTo y xs k).length + 1) c') (.int .i64 ((k : Int) + 1)) w' := by
          refine ⟨k + 1, H', by omega, by go_num, ?_, hH5, (hGA.alloc _).trans hg5⟩
          unfold IsNums
          rw [HSX.out, List.length_append, List.map_append]
          exact hrow
        have HFIN := Lib.hid hfin
        clear hfin hrow hH5 hg5
        go_wp2_with fail
        exact ⟨HFIN.out, by simp [intOf]; omega⟩
      · rw [if_neg hs] at HSX
        have e1 : (xs == s) = false := by simpa using hs
        clear hs
        go_wp2_with fail
        exact ⟨⟨k + 1, H3, by omega, by go_num, by rw [HSX.out]; exact HN.out, HHA.out, hGA⟩, by simp [intOf]; omega⟩
    · obtain rfl : k = y.length := by omega
      go_wp2_with fail
      go_ret
      exact ⟨_, H3, rfl, HN.out, hHr, hgr⟩
end
end Go.Proofs.Yteaeahhjkagbdaa
