/-
  Chapter 16, plain: some pages stay, others come and go.
-/
import Derived.Test.YtoelopghilbfeaaGreatSpJ
namespace Go.Proofs.YtoelopghilbfeaaGreat
open Go.RowKit
set_option linter.unusedSimpArgs false
set_option linter.unusedVariables false

variable {s s' : SM} {c c' : CM}
structure KeepI (n : Nat) (pg : List Nat) (o : Int) (s : SM) (c : CM) (L : List (Nat × Nat)) : Prop where
  law : LawI 1000000 1 (fun _ => false) (2 * n) L s c
  has : ∀ j (h : j < pg.length), (pg[j], j) ∈ L
  few : L.length ≤ pg.length + (if o < 0 then 0 else 1)
  neg : o < 0 → o = -1
  old : 0 ≤ o → ∃ on i : Nat, o = on ∧ (on, i) ∈ L ∧ ∀ q ∈ pg, q ≠ on
theorem filter_lt' {α : Type} (p : α → Bool) (l : List α) {a : α} (h : a ∈ l) (hp : p a = false) : (l.filter p).length + 1 ≤ l.length := by
  have := filter_lt p (fun _ => true) l (fun _ _ => rfl) h rfl hp
  rw [List.filter_eq_self.2 (fun _ _ => rfl)] at this
  omega
theorem KeepI.put {n : Nat} {pg : List Nat} {o : Int} {L : List (Nat × Nat)} (I : KeepI n pg o s c L) (hpg : pg.length ≤ 12) (hn : n ≤ 320) :
    ∃ p : Nat, (putA s c (hdK 1 n) (fillL n 128)).2.2 = ((p : Int), 0) ∧ p < 64 ∧
      (o < 0 → o = -1 ∧ ∃ L', KeepI (n + 1) pg p (putA s c (hdK 1 n) (fillL n 128)).1 (putA s c (hdK 1 n) (fillL n 128)).2.1 L' ∧ (pg.length = n → KeepI (n + 1) (pg ++ [p]) (-1) (putA s c (hdK 1 n) (fillL n 128)).1 (putA s c (hdK 1 n) (fillL n 128)).2.1 L')) ∧
      (0 ≤ o → (dropS (putA s c (hdK 1 n) (fillL n 128)).1 o).2 = 0 ∧ ∃ L', KeepI (n + 1) pg p (dropS (putA s c (hdK 1 n) (fillL n 128)).1 o).1 (putA s c (hdK 1 n) (fillL n 128)).2.1 L' ∧ (pg.length = n → KeepI (n + 1) (pg ++ [p]) (-1) (dropS (putA s c (hdK 1 n) (fillL n 128)).1 o).1 (putA s c (hdK 1 n) (fillL n 128)).2.1 L')) := by
  obtain ⟨hI, hhas, hfew, hneg, hold⟩ := I
  have hL16 : L.length < 16 := by split at hfew <;> omega
  rcases hI.put (by omega) (i := n) (by omega) (Or.inl rfl) with ⟨_, hf⟩ | ⟨p, e1, e2, e3, e4, e5, _⟩
  · exact absurd hf (hI.few (fun _ => rfl) hL16)
  · generalize putA s c (hdK 1 n) (fillL n 128) = r at *
    have e5' : LawI 1000000 1 (fun _ => false) (2 * ((n + 1 : Nat) : Int)) ((p, n) :: L) r.1 r.2.1 := by
      have e : 2 * ((n + 1 : Nat) : Int) = 2 * (n : Int) + 2 := by omega
      rw [e]; exact e5
    have hpq : ∀ q i, (q, i) ∈ L → q ≠ p := by
      intro q i h e
      have := (hI.has.has q i h).2.1
      rw [e, e3] at this
      exact absurd this (by simp)
    -- whatever list holds
    have fin : ∀ (t : SM) (L' : List (Nat × Nat)), LawI 1000000 1 (fun _ => false) (2 * ((n + 1 : Nat) : Int)) L' t r.2.1 → (∀ j (h : j < pg.length), (pg[j], j) ∈ L') → (p, n) ∈ L' → L'.length ≤ pg.length + 1 →
        KeepI (n + 1) pg p t r.2.1 L' ∧ (pg.length = n → KeepI (n + 1) (pg ++ [p]) (-1) t r.2.1 L') := by
      intro t L' h1 h2 h3 h4
      constructor
      · refine ⟨h1, h2, by rw [if_neg (by omega)]; exact h4, by omega, fun _ => ⟨p, n, rfl, h3, fun q hq => ?_⟩⟩
        obtain ⟨j, hj, rfl⟩ := List.mem_iff_getElem.1 hq
        exact hpq _ _ (hhas j hj)
      · intro hlen
        refine ⟨h1, ?_, by rw [if_pos (by omega), List.length_append]; simp; omega, fun _ => rfl, by omega⟩
        intro j hj
        rw [List.length_append] at hj
        by_cases e : j < pg.length
        · rw [List.getElem_append_left e]; exact h2 j e
        · have : j = pg.length := by simp at hj; omega
          subst this
          rw [List.getElem_append_right (Nat.le_refl _)]
          simp only [Nat.sub_self, List.getElem_cons_zero]
          rw [hlen]
          exact h3
    refine ⟨p, e1, e2, ?_, ?_⟩
    · intro ho
      refine ⟨hneg ho, _, fin r.1 _ e5' (fun j hj => List.mem_cons_of_mem _ (hhas j hj)) List.mem_cons_self ?_⟩
      rw [if_pos ho] at hfew
      rw [List.length_cons]
      omega
    · intro ho
      obtain ⟨on, i, rfl, h2, h3⟩ := hold ho
      rw [if_neg (by omega)] at hfew
      obtain ⟨d1, d2⟩ := e5'.drop (List.mem_cons_of_mem _ h2)
      refine ⟨d1, _, fin _ _ d2 ?_ ?_ ?_⟩
      · intro j hj
        exact List.mem_filter.2 ⟨List.mem_cons_of_mem _ (hhas j hj), by simpa using h3 _ (List.getElem_mem hj)⟩
      · exact List.mem_filter.2 ⟨List.mem_cons_self, by simpa using (hpq on i h2).symm⟩
      · have := filter_lt' (fun q : Nat × Nat => decide (q.1 ≠ on)) ((p, n) :: L) (List.mem_cons_of_mem _ h2) (by simp)
        rw [List.length_cons] at this
        omega
theorem keepI_start : KeepI 0 [] (-1) awS awC [] := ⟨lawI_start 1, fun j h => absurd h (by simp), by simp, fun _ => rfl, fun h => by omega⟩
theorem lostN_sim (n : Nat) : ∀ c : CM, c.ok → c.blocks.length ≤ 32 → c.Sim (lostN n c).2 (256 * n) ∧ (lostN n c).2.ok := by
  induction n with
  | zero => intro c h _; exact ⟨CM.Sim.refl c, h⟩
  | succ n ih =>
    intro c h hb
    have h1 : ({ c with on := true } : CM).ok := h
    obtain ⟨a1, a2, a3⟩ := newS_sim h1
    have a0 : c.Sim { c with on := true } 0 := ⟨rfl, rfl, rfl, rfl, Int.le_refl _, by show c.ops ≤ c.ops + 0; omega⟩
    have hb' : ({ c with on := true } : CM).blocks.length ≤ 32 := hb
    have a4 := (a0.trans a1).mono (m := 256) (by omega)
    rw [lostN]
    split
    · exact ⟨a4.mono (by omega), a3⟩
    · split
      · obtain ⟨b1, b2⟩ := ih (newS { c with on := true }).2.1 a3 (by rw [a1.2.2.1]; exact hb)
        exact ⟨(a4.trans b1).mono (by omega), b2⟩
      · exact ⟨a4.mono (by omega), a3⟩
end Go.Proofs.YtoelopghilbfeaaGreat
