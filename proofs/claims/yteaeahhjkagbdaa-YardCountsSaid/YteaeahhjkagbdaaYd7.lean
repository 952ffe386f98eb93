/-
  Package yard: page, needed, Need, Drop, Wash.
-/
import Derived.Test.YteaeahhjkagbdaaYd6
namespace Go.Proofs.Yteaeahhjkagbdaa
open Go.RowKit
set_option linter.unusedSimpArgs false
set_option linter.unusedVariables false

/-- a page of a block -/
def Ypg (y : List YB) (b n : Int) : Option (YB × Bool × Bool) := match Yat y b with
  | none => none
  | some x => if 0 ≤ n ∧ n < (x.pages.length : Int) then some (x, x.pages.getD n.toNat (false, false)) else none
def Ypset (y : List YB) (b n : Int) (x : YB) (p : Bool × Bool) : List YB := Yset y b { x with pages := x.pages.set n.toNat p }
def Yneed (y : List YB) (b n : Int) (d : Bool) : List YB × Int := match Ypg y b n with
  | none => (y, 2)
  | some (x, p) => if x.taken ≤ n ∨ p.1 = true then (y, 9) else (Ypset y b n x (true, d), 0)
def Ydrop (y : List YB) (b n : Int) : List YB × Int := match Ypg y b n with
  | none => (y, 2)
  | some (x, p) => if p.1 = true then (Ypset y b n x (false, false), 0) else (y, 8)
def Ywash (y : List YB) (b n : Int) : List YB × Int := match Ypg y b n with
  | none => (y, 2)
  | some (x, p) => if p.1 = true then (Ypset y b n x (p.1, false), 0) else (y, 8)

/-- what is known of a page of a yard's memory -/
def PgAt (v : Value) (y : List YB) (H : HL) (k i : Nat) (x : YB) (q : Bool × Bool) (gp : Nat) : Prop :=
  (∀ (w : World) (F : HL), Holds w (H ++ F) → w.cell? ⟨gp, i * 2, none⟩ = some (.bool q.1) ∧ w.cell? ⟨gp, i * 2 + 1, none⟩ = some (.bool q.2) ∧ w.frozen? ⟨gp, i * 2, none⟩ = false ∧ w.frozen? ⟨gp, i * 2 + 1, none⟩ = false ∧
    (∀ u : Bool × Bool, ∃ H', IsYard v (Ypset y k i x u) H' ∧ Holds ((w.setCell ⟨gp, i * 2, none⟩ (.bool u.1)).setCell ⟨gp, i * 2 + 1, none⟩ (.bool u.2)) (H' ++ F)) ∧
    (∀ u : Bool, ∃ H', IsYard v (Ypset y k i x (q.1, u)) H' ∧ Holds (w.setCell ⟨gp, i * 2 + 1, none⟩ (.bool u)) (H' ++ F)))

section
variable {v : Value} {y : List YB} {H Fr : HL} {w : World}
theorem Ypg_some {b n : Int} {x : YB} {q : Bool × Bool} (h : Ypg y b n = some (x, q)) : Yat y b = some x ∧ ∃ i : Nat, n = (i : Int) ∧ i < x.pages.length ∧ x.pages[i]? = some q := by
  unfold Ypg at h
  cases ha : Yat y b with
  | none => rw [ha] at h; cases h
  | some x2 =>
    rw [ha] at h
    simp only at h
    split at h
    · rename_i hb
      obtain ⟨i, rfl⟩ := Int.eq_ofNat_of_zero_le hb.1
      have hi : i < x2.pages.length := by omega
      simp only [Option.some.injEq, Prod.mk.injEq] at h
      obtain ⟨rfl, h⟩ := h
      refine ⟨rfl, i, rfl, hi, ?_⟩
      rw [← h]; simp [List.getD, hi]
    · cases h

set_option maxRecDepth 20000 in
theorem ypage_no (b n : Int) (h : IsYard v y H) (hH : Holds w (H ++ Fr)) (hp : Ypg y b n = none) : Calls Try.prog 79 #[v, .int .i64 b, .int .i64 n] w (RetNone 2 w (H ++ Fr)) := by
  have hne := err_ne
  have hnn := nil_ne
  cases ha : Yat y b with
  | none =>
    have HN := Lib.hid (yat_no (w := w) b h hH (Yat_none ha))
    clear ha h hp
    go_enter Try.func79, Try.ntmps79
    go_wp2_with fail
    refine HN.out.mono fun e w1 hr => ?_
    obtain ⟨be, se, rfl, hH1, hg1⟩ := hr.lit (by decide)
    have HH1 := Lib.hid hH1
    clear HN hH1 hr
    go_wp2_with fail
    go_ret2
    exact ⟨_, _, rfl, isErr_lit (c := 2) (by decide) be se, HH1.out, hg1⟩
  | some x =>
    have hn : ¬ (0 ≤ n ∧ n < (x.pages.length : Int)) := by
      intro hn
      unfold Ypg at hp
      rw [ha] at hp
      simp only [if_pos hn] at hp
      cases hp
    obtain ⟨k, rfl, hk, hx⟩ := Yat_some ha
    have hy := h.small.1
    obtain ⟨p, g, cap, gp, cp, rfl, hc1, hc2, _, hxo, hcells, hse1⟩ := h.open_ hx
    obtain ⟨c0, c1, c2, c3, f1, f2, hrd⟩ := hcells w Fr hH
    have hpl := hrd.le
    unfold maxLen at hpl
    have HA := Lib.hid (yat_yes k w hk hy hc1 c0)
    have HH := Lib.hid hH
    have W2 := Lib.hid (fun (w : World) hx => ywrong_any 2 w (H ++ Fr) (by omega) hx)
    clear hse1 hrd hx hcells h hxo hH ha hp
    generalize x.pages.length = m at *
    have h2 : n < 0 ∨ (¬ n < 0 ∧ (m : Int) ≤ n) := by omega
    clear hn
    rcases h2 with h2 | ⟨h2, h3⟩
    all_goals
      go_enter Try.func79, Try.ntmps79
      go_wp2_with fail
      refine HA.out.mono ?_
      rintro e w1 ⟨rfl, rfl⟩
      clear HA
      go_wp2_with fail
      refine (W2.out _ HH.out).mono fun e w1 hr => ?_
      obtain ⟨be, se, rfl, hH1, hg1⟩ := hr.lit (by decide)
      have HH1 := Lib.hid hH1
      clear hH1 hr
      go_wp2_with fail
      go_ret2
      exact ⟨_, _, rfl, isErr_lit (c := 2) (by decide) be se, HH1.out, hg1⟩

set_option maxRecDepth 20000 in
theorem ypage_yes (k i : Nat) {x : YB} {q : Bool × Bool} (h : IsYard v y H) (hH : Holds w (H ++ Fr)) (ha : Yat y (k : Int) = some x) (hi : x.pages[i]? = some q) :
    ∃ gp, PgAt v y H k i x q gp ∧ Calls Try.prog 79 #[v, .int .i64 (k : Int), .int .i64 (i : Int)] w fun e w' => e = .returned (.tuple #[.pointer (some ⟨gp, i * 2, none⟩), .nilIface]) ∧ w = w' := by
  obtain ⟨k', hkk, hk, hx⟩ := Yat_some ha
  obtain rfl : k = k' := by omega
  have hy := h.small.1
  obtain ⟨p, g, cap, gp, cp, rfl, hc1, hc2, _, hxo, hcells, _, _, hpg, _⟩ := h.open_ hx
  obtain ⟨hil, hiq⟩ := List.getElem?_eq_some_iff.1 hi
  refine ⟨gp, ?_, ?_⟩
  · intro w F hH
    obtain ⟨_, _, _, _, _, _, _, A, c, hv, _, _, hrd⟩ := hcells w F hH
    injection hv with hv1 _ hv3
    subst hv1 hv3
    obtain ⟨b3, o3, hb3, hcell⟩ := hrd (by omega)
    injection hb3 with hb3
    injection hb3 with hb3 ho3
    subst hb3 ho3
    obtain ⟨x0, x1⟩ := page_cell hcell hil
    rw [Nat.zero_add] at x0 x1
    rw [hiq] at x0 x1
    obtain ⟨f1, f2, s1, s2⟩ := hpg i hil w F hH
    have hgd : x.pages.getD i (false, false) = q := by simp [List.getD, hi]
    refine ⟨x0, x1, f1, f2, fun u => ?_, fun u => ?_⟩
    · obtain ⟨H', h1, h2⟩ := s1 u
      exact ⟨H', by simpa [Ypset, Yset] using h1, h2⟩
    · obtain ⟨H', h1, h2⟩ := s2 u
      rw [hgd] at h1
      exact ⟨H', by simpa [Ypset, Yset] using h1, h2⟩
  · obtain ⟨c0, c1, c2, c3, f1, f2, hrd⟩ := hcells w Fr hH
    have hpl := hrd.le
    unfold maxLen at hpl
    have HA := Lib.hid (yat_yes k w hk hy hc1 c0)
    have hnn := nil_ne
    have hii : (i : Int) < (x.pages.length : Int) := by omega
    clear hpg hrd hx hcells h hxo hH ha hi hiq
    generalize x.pages.length = m at *
    go_enter Try.func79, Try.ntmps79
    go_wp2_with fail
    refine HA.out.mono ?_
    rintro e w1 ⟨rfl, rfl⟩
    clear HA
    go_wp2_with fail
    go_ret2
    exact ⟨rfl, rfl⟩
end
end Go.Proofs.Yteaeahhjkagbdaa
