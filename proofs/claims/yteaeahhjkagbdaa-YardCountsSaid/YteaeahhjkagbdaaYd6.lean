/-
  Package yard: Next, Free, page, needed, Need, Drop, Wash.
-/
import Derived.Test.YteaeahhjkagbdaaYd5
namespace Go.Proofs.Yteaeahhjkagbdaa
open Go.RowKit
set_option linter.unusedSimpArgs false
set_option linter.unusedVariables false

section
variable {v : Value} {y : List YB} {H Fr : HL} {w : World}
set_option maxRecDepth 20000 in
set_option maxHeartbeats 1000000 in
theorem ynext_any (b : Int) (h : IsYard v y H) (hH : Holds w (H ++ Fr)) : Calls Try.prog 51 #[v, .int .i64 b] w (RetYNE v (Ynext y b) w Fr) := by
  have HI := Lib.hid h
  cases ha : Yat y b with
  | none =>
    rw [show Ynext y b = (y, 0, 2) by simp [Ynext, ha]]
    have HN := Lib.hid (yat_no (w := w) b h hH (Yat_none ha))
    have hne := err_ne
    clear ha h
    go_enter Try.func51, Try.ntmps51
    go_wp2_with fail
    refine HN.out.mono fun e w1 hr => ?_
    obtain ⟨be, se, rfl, hH1, hg1⟩ := hr.lit (by decide)
    have HH1 := Lib.hid hH1
    clear HN hH1 hr
    go_wp2_with fail
    go_ret2
    exact ⟨_, H, _, rfl, isErr_lit (c := 2) (by decide) be se, HI.out, Holds.swap (A := [_]) HH1.out, hg1⟩
  | some x =>
    obtain ⟨k, rfl, hk, hx⟩ := Yat_some ha
    have hy := h.small.1
    obtain ⟨p, g, cap, gp, cp, rfl, hc1, hc2, _, hxo, hcells, hse1, hset, hse3⟩ := h.open_ hx
    obtain ⟨c0, c1, c2, c3, f1, f2, hrd⟩ := hcells w Fr hH
    have hpl := hrd.le
    unfold maxLen at hpl
    clear hse1 hse3 hrd
    have HA := Lib.hid (yat_yes k w hk hy hc1 c0)
    have hnn := nil_ne
    have HH := Lib.hid hH
    have HSET := Lib.hid hset
    have HXO := Lib.hid hxo
    have W9 := Lib.hid (fun (w : World) hx => ywrong_any 9 w (H ++ Fr) (by omega) hx)
    have W7 := Lib.hid (fun (w : World) hx => ywrong_any 7 w (H ++ Fr) (by omega) hx)
    have ht0 := hxo.1
    have ht8 := hxo.2.1
    have hp8 := hxo.2.2.1
    clear hx hcells h hset hxo hH
    by_cases hs : x.state = 2
    · rw [hs] at c1
      have hneg : ¬ (x.state ≠ 2) := by omega
      by_cases hfu : (x.pages.length : Int) ≤ x.taken
      · rw [show Ynext y (k : Int) = (y, 0, 7) by simp [Ynext, ha, hs, hfu]]
        clear ha hs hneg
        generalize x.taken = t at *
        generalize x.pages.length = n at *
        go_enter Try.func51, Try.ntmps51
        go_wp2_with fail
        refine HA.out.mono ?_
        rintro e w1 ⟨rfl, rfl⟩
        clear HA
        go_wp2_with fail
        go_quiet (fail)
        go_wp2_with fail
        refine (W7.out _ (HH.out.drewN nq)).mono fun e w1 hr => ?_
        obtain ⟨be, se, rfl, hH1, hg1⟩ := hr.lit (by decide)
        have HH1 := Lib.hid hH1
        clear hH1 hr
        go_wp2_with fail
        go_ret2
        exact ⟨_, H, _, rfl, isErr_lit (c := 7) (by decide) be se, HI.out, Holds.swap (A := [_]) HH1.out, ((Grew.refl w).drewN nq).trans hg1⟩
      · rw [show Ynext y (k : Int) = (Yset y k { x with taken := x.taken + 1 }, x.taken, 0) by simp [Ynext, ha, hs, hfu]]
        have hok2 : ({ x with taken := x.taken + 1 } : YB).ok := ⟨by show 0 ≤ x.taken + 1; omega, by show x.taken + 1 ≤ 8; omega, HXO.out.2.2.1, HXO.out.2.2.2⟩
        have HOK2 := Lib.hid hok2; clear hok2
        clear ha hs hneg
        go_enter Try.func51, Try.ntmps51
        go_wp2_with fail
        refine HA.out.mono ?_
        rintro e w1 ⟨rfl, rfl⟩
        clear HA
        go_wp2_with fail
        go_quiet (fail)
        obtain ⟨H', hy', hh'⟩ := HSET.out (w.drewN nq) Fr (x.taken + 1) (HH.out.drewN nq) HOK2.out
        have HY := Lib.hid hy'
        have HHF := Lib.hid hh'
        clear hy' hh'
        go_wp2_with fail
        go_ret2
        exact ⟨_, H', [], rfl, IsErr.none, HY.out, HHF.out, ((Grew.refl w).drewN nq).setCell _ _⟩
    · have e1 : (x.state != 2) = true := by simpa using hs
      rw [show Ynext y (k : Int) = (y, 0, 9) by simp [Ynext, ha, hs]]
      clear ha hs
      go_enter Try.func51, Try.ntmps51
      go_wp2_with fail
      refine HA.out.mono ?_
      rintro e w1 ⟨rfl, rfl⟩
      clear HA
      go_wp2_with fail
      refine (W9.out _ HH.out).mono fun e w1 hr => ?_
      obtain ⟨be, se, rfl, hH1, hg1⟩ := hr.lit (by decide)
      have HH1 := Lib.hid hH1
      clear hH1 hr
      go_wp2_with fail
      go_ret2
      exact ⟨_, H, _, rfl, isErr_lit (c := 9) (by decide) be se, HI.out, Holds.swap (A := [_]) HH1.out, hg1⟩

set_option maxRecDepth 20000 in
set_option maxHeartbeats 1000000 in
theorem yfree_any (b : Int) (h : IsYard v y H) (hH : Holds w (H ++ Fr)) : Calls Try.prog 57 #[v, .int .i64 b] w (RetYE v (Yfree y b) w Fr) := by
  have HI := Lib.hid h
  cases ha : Yat y b with
  | none =>
    rw [show Yfree y b = (y, 2) by simp [Yfree, ha]]
    have HN := Lib.hid (yat_no (w := w) b h hH (Yat_none ha))
    have hne := err_ne
    clear ha h
    go_enter Try.func57, Try.ntmps57
    go_wp2_with fail
    refine HN.out.mono fun e w1 hr => ?_
    obtain ⟨be, se, rfl, hH1, hg1⟩ := hr.lit (by decide)
    have HH1 := Lib.hid hH1
    clear HN hH1 hr
    go_wp2_with fail
    go_ret
    exact ⟨_, H, _, rfl, isErr_lit (c := 2) (by decide) be se, HI.out, Holds.swap (A := [_]) HH1.out, hg1⟩
  | some x =>
    obtain ⟨k, rfl, hk, hx⟩ := Yat_some ha
    have hy := h.small.1
    have HNE := Lib.hid (yneededL_any (w := w) (k : Int) h hH)
    have hnl : (Yneeded y (k : Int)).length ≤ 8 := by
      rw [show Yneeded y (k : Int) = neededTo x.pages x.pages.length by simp [Yneeded, ha]]
      have := neededTo_len x.pages x.pages.length
      have := (h.small.2 x (List.mem_of_getElem? hx)).2.2.1
      omega
    have HFR : ∀ r, Yfree y (k : Int) = r → Yfree y (k : Int) = r := fun _ h => h
    have hyf : Yfree y (k : Int) = if (x.state ≠ 2 ∧ x.state ≠ 3) ∨ Yneeded y (k : Int) ≠ [] then (y, 9) else (Yset y k { x with state := 1, taken := 0 }, 0) := by simp [Yfree, ha]
    rw [hyf]
    obtain ⟨p, g, cap, gp, cp, rfl, hc1, hc2, _, hxo, hcells, hse1, hse2, hse3, hset⟩ := h.open_ hx
    obtain ⟨c0, c1, c2, c3, f1, f2, hrd⟩ := hcells w Fr hH
    clear hse1 hse2 hse3 hrd HFR
    have HA := Lib.hid (yat_yes k w hk hy hc1 c0)
    have hnn := nil_ne
    have HH := Lib.hid hH
    have hok2 : ({ x with state := 1, taken := 0 } : YB).ok := ⟨by show (0:Int) ≤ 0; omega, by show (0:Int) ≤ 8; omega, hxo.2.2.1, by show (0:Int) ≤ 1 ∧ (1:Int) ≤ 100; omega⟩
    have HV := Lib.hid (fun wx F (hx : Holds wx (H ++ F)) => And.intro (hcells wx F hx).2.1 (And.intro (hcells wx F hx).2.2.1 (And.intro (hcells wx F hx).2.2.2.2.1 (hcells wx F hx).2.2.2.2.2.1)))
    have HSET := Lib.hid (fun wx F (hx : Holds wx (H ++ F)) => hset wx F 1 0 hx hok2)
    have W9 := Lib.hid (fun (w : World) F hx => ywrong_any 9 w F (by omega) hx)
    have HPO := Lib.hid (show Yset y (k : Int) { x with state := 1, taken := 0 } = y.set k { x with state := 1, taken := 0 } by simp [Yset])
    clear hset hcells hxo hok2 h hx ha hyf hH
    have hbad : ∀ (w1 : World) (F : HL), Holds w1 (H ++ F) → Calls Try.prog 78 #[.int .i64 9] w1 (RetErr 9 w1 (H ++ F)) := fun w1 F hF => W9.out w1 _ hF
    have HBAD := Lib.hid hbad; clear hbad
    by_cases h23 : x.state ≠ 2 ∧ x.state ≠ 3
    · rw [if_pos (.inl h23)]
      have e1 : (x.state != 2) = true := by simpa using h23.1
      have e2 : (x.state != 3) = true := by simpa using h23.2
      clear h23
      go_enter Try.func57, Try.ntmps57
      go_wp2_with fail
      refine HA.out.mono ?_
      rintro e w1 ⟨rfl, rfl⟩
      clear HA
      go_wp2_with fail
      refine (HBAD.out _ _ HH.out).mono fun e w1 hr => ?_
      obtain ⟨be, se, rfl, hH1, hg1⟩ := hr.lit (by decide)
      have HH1 := Lib.hid hH1
      clear hH1 hr
      go_wp2_with fail
      go_ret
      exact ⟨_, H, _, rfl, isErr_lit (c := 9) (by decide) be se, HI.out, Holds.swap (A := [_]) HH1.out, hg1⟩
    · have e12 : ((x.state != 2) = false) ∨ ((x.state != 2) = true ∧ (x.state != 3) = false) := by
        by_cases h2 : x.state = 2
        · left; simp [h2]
        · right; refine ⟨by simpa using h2, ?_⟩
          have : x.state = 3 := by omega
          simp [this]
      have hif : ((x.state ≠ 2 ∧ x.state ≠ 3) ∨ Yneeded y (k : Int) ≠ []) ↔ Yneeded y (k : Int) ≠ [] := by
        constructor
        · rintro (h | h)
          · exact absurd h h23
          · exact h
        · exact .inr
      simp only [hif]
      clear hif h23
      generalize hyn : Yneeded y (k : Int) = yn at *
      clear hyn
      by_cases hnn0 : yn = []
      · subst hnn0
        rw [if_neg (by simp)]
        rcases e12 with e1 | ⟨e1, e2⟩
        all_goals
          go_enter Try.func57, Try.ntmps57
          go_wp2_with fail
          refine HA.out.mono ?_
          rintro e w1 ⟨rfl, rfl⟩
          clear HA
          go_wp2_with fail
          refine HNE.out.mono ?_
          rintro e w1 ⟨nv, Hn, rfl, hnv, hH1, hg1⟩
          obtain ⟨An, qn, rfl⟩ := hnv.val
          have hHx : Holds w1 (H ++ (Hn ++ Fr)) := hH1.swap
          obtain ⟨d1, d2, g1, g2⟩ := HV.out w1 _ hHx
          obtain ⟨g3, d3, H2, h2, hh2⟩ := HSET.out w1 _ hHx
          have H2' := Lib.hid h2
          have HH2 := Lib.hid hh2
          clear h2 hh2 hnv hH1 hHx HNE c1 c2 f1 f2
          go_wp2_with fail
          go_ret
          exact ⟨_, H2, [], rfl, IsErr.none, by rw [HPO.out]; exact H2'.out, Holds.mid (A := H2) (B := Hn) HH2.out, (hg1.setCell _ _).setCell _ _⟩
      · rw [if_pos hnn0]
        have hlen : (0 : Int) < (yn.length : Int) := by
          cases yn with
          | nil => exact absurd rfl hnn0
          | cons a l => show (0 : Int) < ((l.length + 1 : Nat) : Int); omega
        clear hnn0
        rcases e12 with e1 | ⟨e1, e2⟩
        all_goals
          go_enter Try.func57, Try.ntmps57
          go_wp2_with fail
          refine HA.out.mono ?_
          rintro e w1 ⟨rfl, rfl⟩
          clear HA
          go_wp2_with fail
          refine HNE.out.mono ?_
          rintro e w1 ⟨nv, Hn, rfl, hnv, hH1, hg1⟩
          obtain ⟨An, qn, rfl⟩ := hnv.val
          have hHx : Holds w1 (H ++ (Hn ++ Fr)) := hH1.swap
          have HHX := Lib.hid hHx
          clear hnv hH1 hHx HNE c1 c2 f1 f2
          go_wp2_with fail
          refine (HBAD.out _ _ HHX.out).mono fun e w2 hr => ?_
          obtain ⟨be, se, rfl, hH2, hg2⟩ := hr.lit (by decide)
          have HH2 := Lib.hid hH2
          clear hH2 hr
          go_wp2_with fail
          go_ret
          exact ⟨_, H, _, rfl, isErr_lit (c := 9) (by decide) be se, HI.out, HH2.out.sub (by (repeat' (first | refine sub_append ?_ ?_ | refine sub_cons ?_ ?_ | exact sub_nil)); all_goals first | (intro p hp; simp only [List.mem_append, List.mem_cons, hp, true_or, or_true]) | simp only [List.mem_append, List.mem_cons, true_or, or_true]) (fun b => by simp only [keyc_append, keyc_cons, keyc_nil]; omega), hg1.trans hg2⟩
end
end Go.Proofs.Yteaeahhjkagbdaa
