/-
  Chapter 16, plain: a new store over a new chip.
-/
import Derived.Test.YtoelopghilbfeaaGreatSpH
namespace Go.Proofs.YtoelopghilbfeaaGreat
open Go.RowKit
set_option linter.unusedSimpArgs false
set_option linter.unusedVariables false

variable {s s' : SM} {c c' : CM}
theorem new_at {B P Z : Nat} {marks : List Int} {ms : List Mi} {k : Nat} {x : CB} (h : (CM.new B P Z marks ms).blocks[k]? = some x) : k < B ∧ x = CB.new P Z (marks.contains (k : Int)) := by
  have hk : k < B := by have := (List.getElem?_eq_some_iff.1 h).1; simpa [CM.new] using this
  refine ⟨hk, ?_⟩
  have h2 : (CM.new B P Z marks ms).blocks[k]? = some (CB.new P Z (marks.contains (k : Int))) := by
    show ((List.range B).map fun k : Nat => CB.new P Z (marks.contains (k : Int)))[k]? = _
    rw [List.getElem?_map, List.getElem?_range hk]
    rfl
  rw [h2] at h
  injection h with h
  exact h.symm
theorem new_shape {B P Z : Nat} {marks : List Int} {ms : List Mi} (k : Nat) (x : CB) (h : (CM.new B P Z marks ms).blocks[k]? = some x) : x.shape P Z := by
  obtain ⟨_, rfl⟩ := new_at h
  refine ⟨?_, Int.le_refl _, by show (0 : Int) ≤ P; omega, fun p _ hp => blankB_at hp⟩
  show (blankB P Z).length = P
  unfold blankB
  rw [List.length_replicate]
theorem lookI_chip {k : Int} (h1 : c.nextOf k = 0) : (lookI s c k).2 = (c, 0) := by
  have hA : lookA s c k = (s, c, 0) := by unfold lookA; rw [if_neg (by omega)]
  unfold lookI
  rw [hA, if_neg (by simp)]
  unfold lookB
  split <;> rfl
theorem lookAll_chip (h : ∀ k : Nat, c.nextOf k = 0) (n : Nat) : ∀ (k : Nat) (s : SM), (lookAll n k s c).2 = (c, 0) := by
  induction n with
  | zero => intro k s; rfl
  | succ n ih =>
    intro k s
    have e := lookI_chip (s := s) (h k)
    rw [lookAll, show (lookI s c k).2.2 = 0 by rw [e], if_neg (by simp), show (lookI s c k).2.1 = c by rw [e]]
    exact ih (k + 1) _
/-- a new store over a new chip -/
theorem new_start (marks : List Int) (ms : List Mi) (hpl : planB ((CM.new 16 4 128 marks ms).blocks.length : Int) (CM.new 16 4 128 marks ms).P (CM.new 16 4 128 marks ms).Z = true) :
    (newS (CM.new 16 4 128 marks ms)).2 = (CM.new 16 4 128 marks ms, 0) ∧ Cont (newS (CM.new 16 4 128 marks ms)).1 (CM.new 16 4 128 marks ms) ∧ Live (newS (CM.new 16 4 128 marks ms)).1 (CM.new 16 4 128 marks ms) ∧ (newS (CM.new 16 4 128 marks ms)).1.op = -1 ∧
      ((newS (CM.new 16 4 128 marks ms)).1.B = 16 ∧ (newS (CM.new 16 4 128 marks ms)).1.P = 4 ∧ (newS (CM.new 16 4 128 marks ms)).1.Z = 128) ∧ ∀ j q : Nat, j < 16 → q < 4 → lookS (newS (CM.new 16 4 128 marks ms)).1.hs ((j : Int) * 4 + q) = none := by
  have hch : (newS (CM.new 16 4 128 marks ms)).2 = (CM.new 16 4 128 marks ms, 0) := lookAll_chip (fun k => new_next 16 4 128 marks ms k) _ _ _
  have hlen : (CM.new 16 4 128 marks ms).blocks.length = 16 := by simp [CM.new]
  obtain ⟨a1, a2⟩ := newS_spec (c := CM.new 16 4 128 marks ms) hpl rfl (fun k x h => new_shape k x h)
  have hv : ∀ j q : Nat, j < 16 → q < 4 → (CM.new 16 4 128 marks ms).vAt j q = none := by
    intro j q hj hq
    cases hb : (CM.new 16 4 128 marks ms).blocks[j]? with
    | none => exact vAt_none hb q
    | some x =>
      rw [vAt_of hb]
      obtain ⟨_, rfl⟩ := new_at hb
      exact pgV_rep 4 156 255 _ rfl (by omega) q
  generalize newS (CM.new 16 4 128 marks ms) = r at *
  obtain ⟨r1, r2⟩ := r
  dsimp only at hch
  subst hch
  dsimp only at a2
  rcases a2 with ⟨h4, _⟩ | ⟨_, b1, b2, b3, b4, b5, b6, b7⟩
  · exact absurd h4 (by decide)
  · refine ⟨rfl, b1, b2, b3, ⟨b4.trans hlen, b5, b6⟩, fun j q hj hq => ?_⟩
    have := b7 j q (by rw [hlen]; exact hj) hq
    rw [hv j q hj hq] at this
    exact this
set_option maxRecDepth 20000 in
theorem aw_plan' : planB ((CM.new 16 4 128 [] []).blocks.length : Int) (CM.new 16 4 128 [] []).P (CM.new 16 4 128 [] []).Z = true := by kernel_rfl
theorem awS_ok : Cont awS awC ∧ Live awS awC ∧ ∀ j q : Nat, j < 16 → q < 4 → lookS awS.hs ((j : Int) * 4 + q) = none := by
  obtain ⟨_, h2, h3, _, _, h6⟩ := new_start [] [] aw_plan'
  have e : (newS (CM.new 16 4 128 [] [])).1 = awS := by have := awN; show (newS awC).1 = awS; rw [this]
  rw [e] at h2 h3 h6
  exact ⟨h2, h3, h6⟩
theorem awC_at {k : Nat} {x : CB} (h : awC.blocks[k]? = some x) : x = CB.new 4 128 false := by
  obtain ⟨_, h2⟩ := new_at (marks := []) (ms := []) h
  exact h2
theorem awC_calm {N : Int} : Calm awC N := ⟨fun m h => absurd h (by simp [awC, CM.new]), fun k x h => by rw [awC_at h]; rfl⟩
theorem awC_wear (k : Nat) : awC.wearOf k = 0 := by
  unfold CM.wearOf
  rw [blk_at]
  cases h : awC.blocks[k]? with
  | none => rfl
  | some x => rw [awC_at h]; rfl
theorem spr_start : SprI 0 (-1) awS awC := by
  obtain ⟨h1, h2, h3⟩ := awS_ok
  refine ⟨h1, h2, awC_calm, ⟨rfl, rfl, rfl⟩, Int.le_refl _, rfl, fun j x h => by rw [awC_at h]; rfl, fun j _ => ?_, Or.inl ⟨rfl, rfl, h3⟩, ⟨0, Int.le_refl _, ?_, ?_, ?_, ?_⟩⟩
  · rw [awC_wear]; exact ⟨Int.le_refl _, Int.le_refl _⟩
  · intro j _; show 0 ≤ awC.wearOf (j : Nat) ∧ awC.wearOf (j : Nat) ≤ 0 + 2; rw [awC_wear]; omega
  · intro j _ _; show awC.wearOf (j : Nat) ≤ 0 + 1; rw [awC_wear]; omega
  · intro j _ h; have h' : awC.wearOf (j : Nat) = 0 + 2 := h; rw [awC_wear] at h'; omega
  · intro j _ _; exact awC_wear j
end Go.Proofs.YtoelopghilbfeaaGreat
