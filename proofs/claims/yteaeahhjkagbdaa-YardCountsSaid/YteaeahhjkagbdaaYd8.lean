/-
  Package yard: needed, Need, Drop, Wash.
-/
import Derived.Test.YteaeahhjkagbdaaYd7
namespace Go.Proofs.Yteaeahhjkagbdaa
open Go.RowKit
set_option linter.unusedSimpArgs false
set_option linter.unusedVariables false

section
variable {v : Value} {y : List YB} {H Fr : HL} {w : World}
set_option maxRecDepth 20000 in
theorem yneedd_no (b n : Int) (c : Int) (h : IsYard v y H) (hH : Holds w (H ++ Fr)) (hp : (Ypg y b n = none ∧ c = 2) ∨ (∃ x q, Ypg y b n = some (x, q) ∧ q.1 = false ∧ c = 8)) : Calls Try.prog 80 #[v, .int .i64 b, .int .i64 n] w (RetNone c w (H ++ Fr)) := by
  have hne := err_ne
  have hnn := nil_ne
  rcases hp with ⟨hp, rfl⟩ | ⟨x, q, hp, hq, rfl⟩
  · have HN := Lib.hid (ypage_no (w := w) b n h hH hp)
    clear h hp
    go_enter Try.func80, Try.ntmps80
    go_wp2_with fail
    refine HN.out.mono fun e w1 hr => ?_
    obtain ⟨be, se, rfl, hH1, hg1⟩ := hr.lit (by decide)
    have HH1 := Lib.hid hH1
    clear HN hH1 hr
    go_wp2_with fail
    go_ret2
    exact ⟨_, _, rfl, isErr_lit (c := 2) (by decide) be se, HH1.out, hg1⟩
  · obtain ⟨ha, i, rfl, hi, hx⟩ := Ypg_some hp
    obtain ⟨k, rfl, hk, _⟩ := Yat_some ha
    obtain ⟨gp, hpg, hc⟩ := ypage_yes k i h hH ha hx
    obtain ⟨x0, x1, f1, f2, s1, s2⟩ := hpg w Fr hH
    rw [hq] at x0
    have HC := Lib.hid hc
    have HH := Lib.hid hH
    have W8 := Lib.hid (fun (w : World) hx => ywrong_any 8 w (H ++ Fr) (by omega) hx)
    clear h hp ha hx hpg hc s1 s2 hq hH
    go_enter Try.func80, Try.ntmps80
    go_wp2_with fail
    refine HC.out.mono ?_
    rintro e w1 ⟨rfl, rfl⟩
    clear HC
    go_wp2_with fail
    refine (W8.out _ HH.out).mono fun e w1 hr => ?_
    obtain ⟨be, se, rfl, hH1, hg1⟩ := hr.lit (by decide)
    have HH1 := Lib.hid hH1
    clear hH1 hr
    go_wp2_with fail
    go_ret2
    exact ⟨_, _, rfl, isErr_lit (c := 8) (by decide) be se, HH1.out, hg1⟩
set_option maxRecDepth 20000 in
theorem yneedd_yes (b n : Int) {x : YB} {q : Bool × Bool} (h : IsYard v y H) (hH : Holds w (H ++ Fr)) (hp : Ypg y b n = some (x, q)) (hq : q.1 = true) :
    ∃ k i gp : Nat, b = k ∧ n = i ∧ PgAt v y H k i x q gp ∧ Calls Try.prog 80 #[v, .int .i64 b, .int .i64 n] w fun e w' => e = .returned (.tuple #[.pointer (some ⟨gp, i * 2, none⟩), .nilIface]) ∧ w = w' := by
  have hnn := nil_ne
  obtain ⟨ha, i, rfl, hi, hx⟩ := Ypg_some hp
  obtain ⟨k, rfl, hk, _⟩ := Yat_some ha
  obtain ⟨gp, hpg, hc⟩ := ypage_yes k i h hH ha hx
  refine ⟨k, i, gp, rfl, rfl, hpg, ?_⟩
  obtain ⟨x0, x1, f1, f2, s1, s2⟩ := hpg w Fr hH
  rw [hq] at x0
  have HC := Lib.hid hc
  clear h hp ha hx hpg hc s1 s2 hq hH
  go_enter Try.func80, Try.ntmps80
  go_wp2_with fail
  refine HC.out.mono ?_
  rintro e w1 ⟨rfl, rfl⟩
  clear HC
  go_wp2_with fail
  go_ret2
  exact ⟨rfl, rfl⟩

set_option maxRecDepth 20000 in
theorem ydrop_any (b n : Int) (h : IsYard v y H) (hH : Holds w (H ++ Fr)) : Calls Try.prog 53 #[v, .int .i64 b, .int .i64 n] w (RetYE v (Ydrop y b n) w Fr) := by
  have HI := Lib.hid h
  have hne := err_ne
  have hnn := nil_ne
  have hbad : ∀ c : Int, c ≠ 0 → Ydrop y b n = (y, c) → ((Ypg y b n = none ∧ c = 2) ∨ (∃ x q, Ypg y b n = some (x, q) ∧ q.1 = false ∧ c = 8)) → Calls Try.prog 53 #[v, .int .i64 b, .int .i64 n] w (RetYE v (Ydrop y b n) w Fr) := by
    intro c hc e1 hp
    rw [e1]
    have HN := Lib.hid (yneedd_no (w := w) b n c h hH hp)
    have HC := Lib.hid hc
    clear h hp e1 hc
    go_enter Try.func53, Try.ntmps53
    go_wp2_with fail
    refine HN.out.mono fun e w1 hr => ?_
    obtain ⟨be, se, rfl, hH1, hg1⟩ := hr.lit HC.out
    have HH1 := Lib.hid hH1
    clear HN hH1 hr
    go_wp2_with fail
    go_ret
    exact ⟨_, H, _, rfl, isErr_lit HC.out be se, HI.out, Holds.swap (A := [_]) HH1.out, hg1⟩
  cases hp : Ypg y b n with
  | none => exact hbad 2 (by decide) (by simp [Ydrop, hp]) (.inl ⟨hp, rfl⟩)
  | some xq =>
    obtain ⟨x, q⟩ := xq
    cases hq : q.1 with
    | false => exact hbad 8 (by decide) (by simp [Ydrop, hp, hq]) (.inr ⟨x, q, hp, hq, rfl⟩)
    | true =>
      rw [show Ydrop y b n = (Ypset y b n x (false, false), 0) by simp [Ydrop, hp, hq]]
      obtain ⟨k, i, gp, rfl, rfl, hpg, hc⟩ := yneedd_yes (w := w) b n h hH hp hq
      obtain ⟨x0, x1, f1, f2, s1, s2⟩ := hpg w Fr hH
      obtain ⟨H', h1, h2⟩ := s1 (false, false)
      have HC := Lib.hid hc
      have HY := Lib.hid h1
      have HHF := Lib.hid h2
      have hf3 : (w.setCell ⟨gp, i * 2, none⟩ (.bool false)).frozen? ⟨gp, i * 2 + 1, none⟩ = false := by
        obtain ⟨H9, h9, hh9⟩ := s1 (false, q.2)
        simp [f2]
      clear h hp hpg hc s1 s2 hq hH hbad h1 h2
      obtain ⟨q1, q2⟩ := q
      simp only at x0 x1
      go_enter Try.func53, Try.ntmps53
      go_wp2_with fail
      refine HC.out.mono ?_
      rintro e w1 ⟨rfl, rfl⟩
      clear HC
      go_wp2_with fail
      go_ret
      exact ⟨_, H', [], rfl, IsErr.none, HY.out, HHF.out, ((Grew.refl w).setCell _ _).setCell _ _⟩

set_option maxRecDepth 20000 in
theorem ywash_any (b n : Int) (h : IsYard v y H) (hH : Holds w (H ++ Fr)) : Calls Try.prog 54 #[v, .int .i64 b, .int .i64 n] w (RetYE v (Ywash y b n) w Fr) := by
  have HI := Lib.hid h
  have hne := err_ne
  have hnn := nil_ne
  have hbad : ∀ c : Int, c ≠ 0 → Ywash y b n = (y, c) → ((Ypg y b n = none ∧ c = 2) ∨ (∃ x q, Ypg y b n = some (x, q) ∧ q.1 = false ∧ c = 8)) → Calls Try.prog 54 #[v, .int .i64 b, .int .i64 n] w (RetYE v (Ywash y b n) w Fr) := by
    intro c hc e1 hp
    rw [e1]
    have HN := Lib.hid (yneedd_no (w := w) b n c h hH hp)
    have HC := Lib.hid hc
    clear h hp e1 hc
    go_enter Try.func54, Try.ntmps54
    go_wp2_with fail
    refine HN.out.mono fun e w1 hr => ?_
    obtain ⟨be, se, rfl, hH1, hg1⟩ := hr.lit HC.out
    have HH1 := Lib.hid hH1
    clear HN hH1 hr
    go_wp2_with fail
    go_ret
    exact ⟨_, H, _, rfl, isErr_lit HC.out be se, HI.out, Holds.swap (A := [_]) HH1.out, hg1⟩
  cases hp : Ypg y b n with
  | none => exact hbad 2 (by decide) (by simp [Ywash, hp]) (.inl ⟨hp, rfl⟩)
  | some xq =>
    obtain ⟨x, q⟩ := xq
    cases hq : q.1 with
    | false => exact hbad 8 (by decide) (by simp [Ywash, hp, hq]) (.inr ⟨x, q, hp, hq, rfl⟩)
    | true =>
      rw [show Ywash y b n = (Ypset y b n x (q.1, false), 0) by simp [Ywash, hp, hq]]
      obtain ⟨k, i, gp, rfl, rfl, hpg, hc⟩ := yneedd_yes (w := w) b n h hH hp hq
      obtain ⟨x0, x1, f1, f2, s1, s2⟩ := hpg w Fr hH
      obtain ⟨H', h1, h2⟩ := s2 false
      have HC := Lib.hid hc
      have HY := Lib.hid h1
      have HHF := Lib.hid h2
      clear h hp hpg hc s1 s2 hq hH hbad h1 h2
      obtain ⟨q1, q2⟩ := q
      simp only at x0 x1
      go_enter Try.func54, Try.ntmps54
      go_wp2_with fail
      refine HC.out.mono ?_
      rintro e w1 ⟨rfl, rfl⟩
      clear HC
      go_wp2_with fail
      go_ret
      exact ⟨_, H', [], rfl, IsErr.none, HY.out, HHF.out, (Grew.refl w).setCell _ _⟩

set_option maxRecDepth 20000 in
theorem yneed_any (b n : Int) (dirty : Bool) (h : IsYard v y H) (hH : Holds w (H ++ Fr)) : Calls Try.prog 52 #[v, .int .i64 b, .int .i64 n, .bool dirty] w (RetYE v (Yneed y b n dirty) w Fr) := by
  have HI := Lib.hid h
  have hne := err_ne
  have hnn := nil_ne
  cases hp : Ypg y b n with
  | none =>
    rw [show Yneed y b n dirty = (y, 2) by simp [Yneed, hp]]
    have HN := Lib.hid (ypage_no (w := w) b n h hH hp)
    clear h hp
    go_enter Try.func52, Try.ntmps52
    go_wp2_with fail
    refine HN.out.mono fun e w1 hr => ?_
    obtain ⟨be, se, rfl, hH1, hg1⟩ := hr.lit (by decide)
    have HH1 := Lib.hid hH1
    clear HN hH1 hr
    go_wp2_with fail
    go_ret
    exact ⟨_, H, _, rfl, isErr_lit (c := 2) (by decide) be se, HI.out, Holds.swap (A := [_]) HH1.out, hg1⟩
  | some xq =>
    obtain ⟨x, q⟩ := xq
    have hyn : Yneed y b n dirty = if x.taken ≤ n ∨ q.1 = true then (y, 9) else (Ypset y b n x (true, dirty), 0) := by simp [Yneed, hp]
    rw [hyn]
    obtain ⟨ha, i, rfl, hi, hx⟩ := Ypg_some hp
    obtain ⟨k, rfl, hk, hxk⟩ := Yat_some ha
    have hy := h.small.1
    obtain ⟨gp, hpg, hc⟩ := ypage_yes k i h hH ha hx
    obtain ⟨x0, x1, f1, f2, s1, s2⟩ := hpg w Fr hH
    obtain ⟨H', h1, h2⟩ := s1 (true, dirty)
    obtain ⟨p, g, cap, gp2, cp, rfl, hc1, hc2, _, hxo, hcells, hse⟩ := h.open_ hxk
    obtain ⟨c0, c1, c2, c3, e1, e2, hrd⟩ := hcells w Fr hH
    have HC := Lib.hid hc
    have HY := Lib.hid h1
    have HHF := Lib.hid h2
    have HH := Lib.hid hH
    have W9 := Lib.hid (fun (w : World) hx => ywrong_any 9 w (H ++ Fr) (by omega) hx)
    clear h hp hpg hc s1 s2 hH h1 h2 hse hrd hcells hxo hyn ha hx hxk
    obtain ⟨q1, q2⟩ := q
    simp only at x0 x1
    by_cases hbd : x.taken ≤ (i : Int) ∨ q1 = true
    · rw [if_pos hbd]
      have h3 : x.taken ≤ (i : Int) ∨ (¬ x.taken ≤ (i : Int) ∧ q1 = true) := by
        by_cases ht : x.taken ≤ (i : Int)
        · exact .inl ht
        · exact .inr ⟨ht, hbd.resolve_left ht⟩
      clear hbd
      generalize x.taken = t at *
      rcases h3 with h3 | ⟨h3, rfl⟩
      all_goals
        go_enter Try.func52, Try.ntmps52
        go_wp2_with fail
        refine HC.out.mono ?_
        rintro e w1 ⟨rfl, rfl⟩
        clear HC
        go_wp2_with fail
        refine (W9.out _ HH.out).mono fun e w1 hr => ?_
        obtain ⟨be, se, rfl, hH1, hg1⟩ := hr.lit (by decide)
        have HH1 := Lib.hid hH1
        clear hH1 hr
        go_wp2_with fail
        go_ret
        exact ⟨_, H, _, rfl, isErr_lit (c := 9) (by decide) be se, HI.out, Holds.swap (A := [_]) HH1.out, hg1⟩
    · rw [if_neg hbd]
      have h3 : ¬ x.taken ≤ (i : Int) := fun h => hbd (.inl h)
      have hq1 : q1 = false := by cases q1; rfl; exact absurd (.inr rfl) hbd
      subst hq1
      clear hbd
      generalize x.taken = t at *
      go_enter Try.func52, Try.ntmps52
      go_wp2_with fail
      refine HC.out.mono ?_
      rintro e w1 ⟨rfl, rfl⟩
      clear HC
      go_wp2_with fail
      go_ret
      exact ⟨_, H', [], rfl, IsErr.none, HY.out, HHF.out, ((Grew.refl w).setCell _ _).setCell _ _⟩
end
end Go.Proofs.Yteaeahhjkagbdaa
