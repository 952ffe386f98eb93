/-
  NandOrder: the plain side.
-/
import Derived.Test.YtndalabilfdgkaaL8
import Derived.Test.YtndalabilfdgkaaOpen
namespace Go.Proofs.Ytndalabilfdgkaa
open Go.RowKit
set_option linter.unusedSimpArgs false
set_option linter.unusedVariables false

def pgO (k p : Nat) : List UInt8 := fillL (100 * (k : Int) + (p : Int)) 156
theorem pgO_len (n : Int) : (fillL n 156).length = 156 := by simp [fillL]
/-- block 1 in its k-th life, X pages of it programmed -/
def OInv (c : CM) (P k X : Nat) (N : Int) : Prop :=
  c.P = P ∧ c.Z = 128 ∧ c.blocks.length = 2 ∧ c.ms = [] ∧ c.on = true ∧ c.ops ≤ N ∧ (∃ x0, c.blocks[0]? = some x0 ∧ x0.wear = 0) ∧
    ∃ x, c.blocks[1]? = some x ∧ x.failed = false ∧ x.mark = false ∧ x.next = (X : Int) ∧ x.wear = (k : Int) ∧ X ≤ P ∧ x.pages.length = P ∧ ∀ p, p < X → x.pages.getD p [] = pgO k p
theorem oinv_more {c : CM} {P k X : Nat} {N M : Int} (h : OInv c P k X N) (hm : N ≤ M) : OInv c P k X M := by
  obtain ⟨h1, h2, h3, h4, h5, h6, h7⟩ := h
  exact ⟨h1, h2, h3, h4, h5, by omega, h7⟩
theorem oinv_new (P : Nat) : OInv (CM.new 2 P 128 [] []) P 0 0 0 :=
  ⟨rfl, rfl, rfl, rfl, rfl, Int.le_refl _, ⟨_, rfl, rfl⟩, _, rfl, rfl, rfl, rfl, rfl, Nat.zero_le _, by simp [CB.new, blankB], fun p hp => absurd hp (by omega)⟩
theorem oinv_next {c : CM} {P k X : Nat} {N : Int} (h : OInv c P k X N) : c.nextOf 1 = (X : Int) ∧ c.wearOf 1 = (k : Int) ∧ c.wearOf 0 = 0 := by
  obtain ⟨_, _, _, _, _, _, ⟨x0, e0, e1⟩, x, hx, _, _, hn, hw, _⟩ := h
  unfold CM.nextOf CM.wearOf
  rw [show (1 : Int) = ((1 : Nat) : Int) from rfl, CM.blk_nat hx, show (0 : Int) = ((0 : Nat) : Int) from rfl, CM.blk_nat e0]
  exact ⟨hn, hw, e1⟩
/-- the block that is worked on -/
theorem oinv_blk {c : CM} {P k X : Nat} {N : Int} (h : OInv c P k X N) : ∃ x, c.blocks[1]? = some x ∧ x.failed = false := by
  obtain ⟨_, _, _, _, _, _, _, x, hx, hf, _⟩ := h; exact ⟨x, hx, hf⟩
theorem oinv_bad {c : CM} {P k X : Nat} {N : Int} (h : OInv c P k X N) {x : CB} (hx : c.blocks[1]? = some x) {p : Nat} (hp : p < P) (hpX : p ≠ X) (raw : List UInt8) :
    c.prog0 1 x (p : Int) raw = ({ c with ops := c.ops + 1, misuse := c.misuse + 1 }, 6) ∧ OInv { c with ops := c.ops + 1, misuse := c.misuse + 1 } P k X (N + 1) := by
  obtain ⟨h1, h2, h3, h4, h5, h6, h7, x', hx', hf, hm, hn, hr⟩ := h
  rw [hx] at hx'; injection hx' with hx'; subst hx'
  refine ⟨prog_order h5 (by rw [h1]; omega) (.inr (by rw [hn]; omega)), h1, h2, h3, h4, h5, by show c.ops + 1 ≤ N + 1; omega, h7, x, hx, hf, hm, hn, hr⟩
theorem oinv_good {c : CM} {P k X : Nat} {N : Int} (h : OInv c P k X N) {x : CB} (hx : c.blocks[1]? = some x) (hX : X < P) :
    ∃ c' : CM, c.prog0 1 x (X : Int) (pgO k X) = (c', 0) ∧ OInv c' P k (X + 1) (N + 1) ∧ c'.misuse = c.misuse ∧ c'.programs = c.programs + 1 := by
  obtain ⟨h1, h2, h3, h4, h5, h6, ⟨x0, e0, e1⟩, x', hx', hf, hm, hn, hw, hXP, hl, hpg⟩ := h
  rw [hx] at hx'; injection hx' with hx'; subst hx'
  refine ⟨_, prog_good h5 (by rw [h1]; omega) hm hn.symm, ⟨h1, h2, by simpa [CM.setB] using h3, h4, h5, by show c.ops + 1 ≤ N + 1; omega, ⟨x0, ?_, e1⟩, { x with pages := x.pages.set (X : Int).toNat (pgO k X), next := x.next + 1 }, ?_, hf, hm, by show x.next + 1 = _; rw [hn]; rfl, hw, by omega, by simpa using hl, fun p hp => ?_⟩, rfl, rfl⟩
  · show (c.blocks.set 1 _)[0]? = some x0
    rw [List.getElem?_set_ne (by omega)]; exact e0
  · show (c.blocks.set 1 _)[1]? = _
    simp [h3]
  · show (x.pages.set (X : Int).toNat (pgO k X)).getD p [] = pgO k p
    rw [Int.toNat_natCast, List.getD_eq_getElem?_getD, List.getElem?_set]
    by_cases hq : X = p
    · subst hq; rw [if_pos rfl, if_pos (by omega)]; rfl
    · rw [if_neg hq, ← List.getD_eq_getElem?_getD]; exact hpg p (by omega)
theorem oinv_read {c : CM} {P k : Nat} {N : Int} (h : OInv c P k P N) {p : Nat} (hp : p < P) : c.read ((1 : Nat) : Int) (p : Int) = ({ c with ops := c.ops + 1 }, pgO k p, 0) ∧ OInv { c with ops := c.ops + 1 } P k P (N + 1) := by
  obtain ⟨h1, h2, h3, h4, h5, h6, h7, x, hx, hf, hm, hn, hw, hXP, hl, hpg⟩ := h
  refine ⟨?_, h1, h2, h3, h4, h5, by show c.ops + 1 ≤ N + 1; omega, h7, x, hx, hf, hm, hn, hw, hXP, hl, hpg⟩
  rw [read_good h5 (by rw [mi_none h4]; rfl) hx (by rw [h1]; omega), Int.toNat_natCast, hpg p hp]
theorem oinv_erase {c : CM} {P k X : Nat} {N : Int} (h : OInv c P k X N) {x : CB} (hx : c.blocks[1]? = some x) : ∃ c' : CM, c.erase0 1 x = (c', 0) ∧ OInv c' P (k + 1) 0 (N + 1) ∧ c'.misuse = c.misuse ∧ c'.programs = c.programs := by
  obtain ⟨h1, h2, h3, h4, h5, h6, ⟨x0, e0, e1⟩, x', hx', hf, hm, hn, hw, hXP, hl, hpg⟩ := h
  rw [hx] at hx'; injection hx' with hx'; subst hx'
  refine ⟨_, erase_good h5 hm, ⟨h1, h2, by simpa [CM.setB] using h3, h4, h5, by show c.ops + 1 ≤ N + 1; omega, ⟨x0, ?_, e1⟩, { x with pages := blankB c.P c.Z, next := 0, wear := x.wear + 1 }, ?_, hf, hm, rfl, by show x.wear + 1 = _; rw [hw]; rfl, by omega, by simp [blankB, h1], fun p hp => absurd hp (by omega)⟩, rfl, rfl⟩
  · show (c.blocks.set 1 _)[0]? = some x0
    rw [List.getElem?_set_ne (by omega)]; exact e0
  · show (c.blocks.set 1 _)[1]? = _
    simp [h3]
end Go.Proofs.Ytndalabilfdgkaa
