/-
  Package yard: at, page, State, turn, Seal, Open.
-/
import Derived.Test.YteaeahhjkagbdaaYd
namespace Go.Proofs.Yteaeahhjkagbdaa
open Go.RowKit
set_option linter.unusedSimpArgs false
set_option linter.unusedVariables false

/-- yard.wrong -/
theorem ywrong_any (c : Int) (w : World) (Fr : HL) (hc : c ≠ 0) (hH : Holds w Fr) : Calls Try.prog 78 #[.int .i64 c] w (RetErr c w Fr) := by
  have hc' := Lib.hid hc; clear hc
  go_enter Try.func78, Try.ntmps78
  go_wp2
  go_ret
  exact ⟨_, _, rfl, .inr ⟨hc'.out, w.heap.size, _, rfl, rfl⟩, hH.alloc _, (Grew.refl w).alloc _⟩

/-- returned no pointer and an error of number c -/
def RetNone (c : Int) (w : World) (Fr : HL) (e : Ending) (w' : World) : Prop := ∃ ve H, e = .returned (.tuple #[.pointer none, ve]) ∧ IsErr ve c H ∧ Holds w' (H ++ Fr) ∧ Grew w w'

section
variable {v : Value} {y : List YB} {H Fr : HL} {w : World}
/-- at: no such block -/
theorem yat_no (b : Int) (h : IsYard v y H) (hH : Holds w (H ++ Fr)) (hb : ¬ (0 ≤ b ∧ b < (y.length : Int))) : Calls Try.prog 77 #[v, .int .i64 b] w (RetNone 2 w (H ++ Fr)) := by
  obtain ⟨p, A, c, rfl, hl, hc, hview⟩ := h.view
  have c0 := hview w Fr hH
  unfold maxLen at hc
  clear hview h
  generalize H ++ Fr = F at *
  generalize y.length = n at *
  have W2 := Lib.hid (fun (w : World) hx => ywrong_any 2 w F (by omega) hx)
  have HH := Lib.hid hH; clear hH
  have h2 : b < 0 ∨ (¬ b < 0 ∧ (n : Int) ≤ b) := by omega
  clear hb
  rcases h2 with h2 | ⟨h2, h3⟩
  all_goals
    go_enter Try.func77, Try.ntmps77
    go_wp2_with fail
    refine (W2.out _ HH.out).mono ?_
    rintro e w1 ⟨v1, H1, rfl, he, hH1, hg1⟩
    have HE := Lib.hid he; clear he
    go_wp2_with fail
    go_ret2
    exact ⟨_, H1, rfl, HE.out, hH1, hg1⟩
theorem yat_nil (b : Int) (hH : Holds w Fr) : Calls Try.prog 77 #[.pointer none, .int .i64 b] w (RetNone 1 w Fr) := by
  have W2 := Lib.hid (fun (w : World) hx => ywrong_any 1 w Fr (by omega) hx)
  have HH := Lib.hid hH; clear hH
  go_enter Try.func77, Try.ntmps77
  go_wp2_with fail
  refine (W2.out _ HH.out).mono ?_
  rintro e w1 ⟨v1, H1, rfl, he, hH1, hg1⟩
  have HE := Lib.hid he; clear he
  go_wp2_with fail
  go_ret2
  exact ⟨_, H1, rfl, HE.out, hH1, hg1⟩
/-- at: the block's place -/
theorem yat_yes {p g cap n : Nat} (k : Nat) (w : World) (hk : k < n) (hn : n ≤ 32) (hcap : n ≤ cap) (c0 : w.cell? ⟨p, 0, none⟩ = some (.slice (some ⟨g, 0, none⟩) n cap)) :
    Calls Try.prog 77 #[.pointer (some ⟨p, 0, none⟩), .int .i64 (k : Int)] w fun e w' => e = .returned (.tuple #[.pointer (some ⟨g, k * 3, none⟩), .nilIface]) ∧ w = w' := by
  go_enter Try.func77, Try.ntmps77
  go_wp2_with fail
  go_ret2
  exact ⟨rfl, rfl⟩

/-- the model's calls -/
def Yat (y : List YB) (b : Int) : Option YB := if 0 ≤ b ∧ b < (y.length : Int) then y[b.toNat]? else none
theorem Yat_some {y : List YB} {b : Int} {x : YB} (h : Yat y b = some x) : ∃ k : Nat, b = (k : Int) ∧ k < y.length ∧ y[k]? = some x := by
  unfold Yat at h
  split at h
  · rename_i hb
    obtain ⟨k, rfl⟩ := Int.eq_ofNat_of_zero_le hb.1
    exact ⟨k, rfl, by omega, by simpa using h⟩
  · cases h
theorem Yat_none {y : List YB} {b : Int} (h : Yat y b = none) : ¬ (0 ≤ b ∧ b < (y.length : Int)) := by
  intro hb
  unfold Yat at h
  rw [if_pos hb] at h
  obtain ⟨k, rfl⟩ := Int.eq_ofNat_of_zero_le hb.1
  have hk : k < y.length := by omega
  simp [hk] at h
def Yset (y : List YB) (b : Int) (x : YB) : List YB := y.set b.toNat x
def Ystate (y : List YB) (b : Int) : Int := match Yat y b with | some x => x.state | none => 0
def Yturn (y : List YB) (b : Int) (s t : Int) : List YB × Int := match Yat y b with
  | none => (y, 2)
  | some x => if x.state = s then (Yset y b { x with state := t }, 0) else (y, 9)
def Yopen (y : List YB) (b : Int) : List YB × Int := match Yat y b with
  | none => (y, 2)
  | some x => if x.state = 1 then (Yset y b { x with state := 2, taken := 0 }, 0) else (y, 9)

set_option maxRecDepth 20000 in
theorem ystate_any (b : Int) (h : IsYard v y H) (hH : Holds w (H ++ Fr)) : Calls Try.prog 58 #[v, .int .i64 b] w (RetFr (.int .i64 (Ystate y b)) w (H ++ Fr)) := by
  unfold Ystate
  cases ha : Yat y b with
  | none =>
    have HN := Lib.hid (yat_no (w := w) b h hH (Yat_none ha))
    have hne := err_ne
    clear ha
    go_enter Try.func58, Try.ntmps58
    go_wp2_with fail
    refine HN.out.mono ?_
    rintro e w1 ⟨ve, H1, rfl, he, hH1, hg1⟩
    obtain ⟨be, se, rfl, rfl⟩ : ∃ b s, ve = .iface 148 (.pointer (some ⟨b, 0, none⟩)) ∧ H1 = [(b, .cells #[.int .i64 2, .string s] 151)] := by
      rcases he with ⟨h0, _⟩ | ⟨_, h⟩
      · exact absurd h0 (by decide)
      · exact h
    clear HN he
    go_wp2_with fail
    go_ret
    exact ⟨rfl, hH1.right, hg1⟩
  | some x =>
    obtain ⟨k, rfl, hk, hx⟩ := Yat_some ha
    obtain ⟨p, g, cap, gp, cp, rfl, hc1, hc2, _, hxo, hcells, _⟩ := h.open_ hx
    have hy := h.small.1
    obtain ⟨c0, c1, c2, c3, _⟩ := hcells w Fr hH
    have HA := Lib.hid (yat_yes k w hk hy hc1 c0)
    have hnn := nil_ne
    clear ha hx hcells h
    go_enter Try.func58, Try.ntmps58
    go_wp2_with fail
    refine HA.out.mono ?_
    rintro e w1 ⟨rfl, rfl⟩
    clear HA
    go_wp2_with fail
    go_ret
    exact ⟨rfl, hH, Grew.refl w⟩
end
end Go.Proofs.Yteaeahhjkagbdaa
