/-
  YardCounts: the plain law: what an act makes of a yard keeps what must be.
-/
import Derived.Test.YteaeahhjkagbdaaL11D
namespace Go.Proofs.Yteaeahhjkagbdaa
open Go.RowKit
set_option linter.unusedSimpArgs false
set_option linter.unusedVariables false

def YBok (x : YB) : Prop := (x.state = 1 ∨ x.state = 2 ∨ x.state = 3 ∨ x.state = 4) ∧ x.pages.length = 5 ∧ (∀ p ∈ x.pages, p.2 = true → p.1 = true) ∧ (x.state = 1 → (∀ p ∈ x.pages, p.1 = false) ∧ x.taken = 0)
def Yinv (y : List YB) : Prop := y.length = 4 ∧ ∀ x ∈ y, YBok x
theorem yinv_new : Yinv (Ynew 4 5) := by
  refine ⟨by simp [Ynew], fun x hx => ?_⟩
  rw [Ynew] at hx
  rw [List.eq_of_mem_replicate hx]
  refine ⟨.inl rfl, by simp, ?_, fun _ => ⟨?_, rfl⟩⟩
  · intro p hp h; rw [List.eq_of_mem_replicate hp] at h; cases h
  · intro p hp; rw [List.eq_of_mem_replicate hp]
theorem Yat_mem {y : List YB} {b : Int} {x : YB} (h : Yat y b = some x) : x ∈ y := by
  obtain ⟨k, rfl, hk, hx⟩ := Yat_some h
  exact List.mem_of_getElem? hx
theorem yinv_set {y : List YB} (h : Yinv y) (b : Int) {x : YB} (hx : YBok x) : Yinv (Yset y b x) := by
  refine ⟨by simp [Yset, h.1], fun z hz => ?_⟩
  rcases List.mem_or_eq_of_mem_set hz with h2 | h2
  · exact h.2 z h2
  · rw [h2]; exact hx
theorem needed_none {ps : List (Bool × Bool)} (h : neededTo ps ps.length = []) : ∀ p ∈ ps, p.1 = false := by
  intro p hp
  obtain ⟨i, hi, rfl⟩ := List.mem_iff_getElem.1 hp
  unfold neededTo at h
  rw [List.map_eq_nil_iff, List.filter_eq_nil_iff] at h
  have := h i (List.mem_range.2 hi)
  simpa [List.getD, hi] using this
theorem needed_all {ps : List (Bool × Bool)} (h : ∀ p ∈ ps, p.1 = false) : neededTo ps ps.length = [] := by
  unfold neededTo
  rw [List.map_eq_nil_iff, List.filter_eq_nil_iff]
  intro i hi
  have hi := List.mem_range.1 hi
  have := h ps[i] (List.getElem_mem hi)
  simpa [List.getD, hi] using this
theorem dirty_needed {ps : List (Bool × Bool)} (h : ∀ p ∈ ps, p.2 = true → p.1 = true) : ∀ k, k ≤ ps.length → dirtyTo ps k ≤ (neededTo ps k).length
  | 0, _ => by simp [dirtyTo]
  | k + 1, hk => by
    have ih := dirty_needed h k (by omega)
    have hp := h ps[k] (List.getElem_mem (by omega))
    have hgd : ps.getD k (false, false) = ps[k] := by simp [List.getD, show k < ps.length by omega]
    rw [dirtyTo_succ, neededTo_succ, hgd]
    cases h2 : ps[k].2
    · simp only [Bool.false_eq_true, if_false]
      split
      · simp; omega
      · exact ih
    · rw [if_pos rfl, if_pos (hp h2)]; simp; omega
theorem yinv_step {y : List YB} (h : Yinv y) (d b p : Int) (t : Bool) : Yinv (Ystep y d b p t) := by
  unfold Ystep
  split
  · unfold Yopen
    split
    · exact h
    · rename_i x hx
      have hb := h.2 x (Yat_mem hx)
      split
      · exact yinv_set h b ⟨.inr (.inl rfl), hb.2.1, hb.2.2.1, fun h => by cases h⟩
      · exact h
  split
  · unfold Ynext
    split
    · exact h
    · rename_i x hx
      have hb := h.2 x (Yat_mem hx)
      split
      · exact h
      · rename_i hs
        split
        · exact h
        · exact yinv_set h b ⟨hb.1, hb.2.1, hb.2.2.1, fun h => absurd h (by show x.state ≠ 1; omega)⟩
  split
  · unfold Yturn
    split
    · exact h
    · rename_i x hx
      have hb := h.2 x (Yat_mem hx)
      split
      · exact yinv_set h b ⟨.inr (.inr (.inl rfl)), hb.2.1, hb.2.2.1, fun h => by cases h⟩
      · exact h
  split
  · unfold Yfree
    split
    · exact h
    · rename_i x hx
      have hb := h.2 x (Yat_mem hx)
      split
      · exact h
      · rename_i hn
        have hn2 : Yneeded y b = [] := by
          by_cases h3 : Yneeded y b = []
          · exact h3
          · exact absurd (.inr h3) hn
        rw [show Yneeded y b = neededTo x.pages x.pages.length by simp [Yneeded, hx]] at hn2
        exact yinv_set h b ⟨.inl rfl, hb.2.1, hb.2.2.1, fun _ => ⟨needed_none hn2, rfl⟩⟩
  split
  · unfold Yretire
    split
    · exact h
    · rename_i x hx
      have hb := h.2 x (Yat_mem hx)
      split
      · exact h
      · exact yinv_set h b ⟨.inr (.inr (.inr rfl)), hb.2.1, hb.2.2.1, fun h => by cases h⟩
  split
  · unfold Yneed
    split
    · exact h
    · rename_i x q hx
      obtain ⟨ha, i, rfl, hi, hq⟩ := Ypg_some hx
      have hb := h.2 x (Yat_mem ha)
      split
      · exact h
      · rename_i hn
        have ht : (i : Int) < x.taken := by
          by_cases h3 : (i : Int) < x.taken
          · exact h3
          · exact absurd (.inl (by omega)) hn
        refine yinv_set h b ⟨hb.1, by simpa using hb.2.1, ?_, fun h => ?_⟩
        · intro z hz
          rcases List.mem_or_eq_of_mem_set hz with h2 | h2
          · exact hb.2.2.1 z h2
          · rw [h2]; exact fun _ => rfl
        · have := (hb.2.2.2 h).2
          omega
  split
  · unfold Ydrop
    split
    · exact h
    · rename_i x q hx
      obtain ⟨ha, i, rfl, hi, hq⟩ := Ypg_some hx
      have hb := h.2 x (Yat_mem ha)
      split
      · refine yinv_set h b ⟨hb.1, by simpa using hb.2.1, ?_, fun h => ⟨?_, (hb.2.2.2 h).2⟩⟩
        · intro z hz
          rcases List.mem_or_eq_of_mem_set hz with h2 | h2
          · exact hb.2.2.1 z h2
          · rw [h2]; exact fun h => by cases h
        · intro z hz
          rcases List.mem_or_eq_of_mem_set hz with h2 | h2
          · exact (hb.2.2.2 h).1 z h2
          · rw [h2]
      · exact h
  split
  · unfold Ywash
    split
    · exact h
    · rename_i x q hx
      obtain ⟨ha, i, rfl, hi, hq⟩ := Ypg_some hx
      have hb := h.2 x (Yat_mem ha)
      split
      · refine yinv_set h b ⟨hb.1, by simpa using hb.2.1, ?_, fun h => ⟨?_, (hb.2.2.2 h).2⟩⟩
        · intro z hz
          rcases List.mem_or_eq_of_mem_set hz with h2 | h2
          · exact hb.2.2.1 z h2
          · rw [h2]; exact fun h => by cases h
        · intro z hz
          rcases List.mem_or_eq_of_mem_set hz with h2 | h2
          · exact (hb.2.2.2 h).1 z h2
          · rw [h2]; exact (hb.2.2.2 h).1 q (List.mem_of_getElem? hq)
      · exact h
  · exact h
/-- how many blocks are listed under the states below s -/
def cntTo (y : List YB) : Nat → Nat
  | 0 => 0
  | s + 1 => cntTo y s + (listTo y ((s : Int) + 1) y.length).length
theorem list_sum {y : List YB} (h : ∀ x ∈ y, YBok x) : ∀ k, k ≤ y.length → (listTo y 1 k).length + (listTo y 2 k).length + (listTo y 3 k).length + (listTo y 4 k).length = k
  | 0, _ => by simp [listTo]
  | k + 1, hk => by
    have ih := list_sum h k (by omega)
    have hb := h y[k] (List.getElem_mem (by omega))
    have hgd : y.getD k ⟨0, 0, []⟩ = y[k] := by simp [List.getD, show k < y.length by omega]
    rw [listTo_succ, listTo_succ, listTo_succ, listTo_succ, hgd]
    rcases hb.1 with e | e | e | e <;> rw [e] <;> simp <;> omega
theorem cnt_four {y : List YB} (h : Yinv y) : cntTo y 4 = 4 := by
  have := list_sum h.2 y.length (Nat.le_refl _)
  have h4 := h.1
  show 0 + (listTo y 1 y.length).length + (listTo y 2 y.length).length + (listTo y 3 y.length).length + (listTo y 4 y.length).length = 4
  omega
theorem cnt_le {y : List YB} (h : Yinv y) : ∀ s, cntTo y s ≤ 4 * s
  | 0 => by simp [cntTo]
  | s + 1 => by
    have := cnt_le h s
    have := listTo_len y ((s : Int) + 1) y.length
    have := h.1
    rw [cntTo]; omega
/-- what is asked of each block -/
theorem yinv_block {y : List YB} (h : Yinv y) (b : Nat) (hb : b < 4) : Ydirty y (b : Int) ≤ ((Yneeded y (b : Int)).length : Int) ∧ (Yneeded y (b : Int)).length ≤ 5 ∧ (Ystate y (b : Int) = 1 → Yneeded y (b : Int) = []) := by
  have hl := h.1
  have hat : Yat y (b : Int) = some y[b] := by
    unfold Yat; rw [if_pos ⟨by omega, by omega⟩]; simp [show b < y.length by omega]
  have hk := h.2 y[b] (List.getElem_mem (by omega))
  unfold Ydirty Yneeded Ystate
  rw [hat]
  refine ⟨?_, ?_, fun h1 => needed_all (hk.2.2.2 h1).1⟩
  · have := dirty_needed hk.2.2.1 _ (Nat.le_refl _)
    show ((dirtyTo (y[b]).pages (y[b]).pages.length : Nat) : Int) ≤ ((neededTo (y[b]).pages (y[b]).pages.length).length : Int)
    omega
  · have := neededTo_len (y[b]).pages (y[b]).pages.length
    have h5 := hk.2.1
    show (neededTo _ _).length ≤ 5
    omega
end Go.Proofs.Yteaeahhjkagbdaa
