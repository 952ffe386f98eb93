/-
  Chapter 16, plain: the blocks that are sealed.
-/
import Derived.Test.YtoelopghilbfeaaGreatSpM
namespace Go.Proofs.YtoelopghilbfeaaGreat
open Go.RowKit
set_option linter.unusedSimpArgs false
set_option linter.unusedVariables false

variable {s s' : SM} {c c' : CM}
structure SeI (mk : Nat → Bool) (n : Nat) (s : SM) (c : CM) (L : List (Nat × Nat)) : Prop where
  law : LawI 1000000 1 mk (2 * n) L s c
  tot : totI (fun j => c.nextOf j) 16 ≤ n
  um : ∀ p i, (p, i) ∈ L → mk (p / 4) = false
theorem SeI.put {mk : Nat → Bool} {n : Nat} {L : List (Nat × Nat)} (I : SeI mk n s c L) (hn : n ≤ 48) (hmk : mkTo mk 16 ≤ 3) :
    ∃ p : Nat, (putA s c (hdK 1 n) (fillL n 128)).2.2 = ((p : Int), 0) ∧ p < 64 ∧ mk (p / 4) = false ∧
      SeI mk (n + 1) (putA s c (hdK 1 n) (fillL n 128)).1 (putA s c (hdK 1 n) (fillL n 128)).2.1 ((p, n) :: L) ∧
      (dropS (putA s c (hdK 1 n) (fillL n 128)).1 p).2 = 0 ∧ SeI mk (n + 1) (dropS (putA s c (hdK 1 n) (fillL n 128)).1 p).1 (putA s c (hdK 1 n) (fillL n 128)).2.1 (((p, n) :: L).filter fun q => decide (q.1 ≠ p)) := by
  obtain ⟨hI, htot, hum⟩ := I
  rcases hI.put (by omega) (i := n) (by omega) (Or.inl rfl) with ⟨_, hf⟩ | ⟨p, e1, e2, e3, e4, e5, e6, e7, _⟩
  · have h1 := totI_full (f := fun j => c.nextOf j) (mk := mk) 16 (fun j => hI.next0 j) fun j hj hm => (hf j hj hm).1
    omega
  · generalize putA s c (hdK 1 n) (fillL n 128) = r at *
    have e5' : LawI 1000000 1 mk (2 * ((n + 1 : Nat) : Int)) ((p, n) :: L) r.1 r.2.1 := by
      have e : 2 * ((n + 1 : Nat) : Int) = 2 * (n : Int) + 2 := by omega
      rw [e]; exact e5
    have ht : totI (fun j => r.2.1.nextOf j) 16 ≤ ((n + 1 : Nat) : Int) := by
      have := (totI_step (f := fun j => c.nextOf (j : Nat)) (g := fun j => r.2.1.nextOf (j : Nat)) (k := p / 4) 16 (fun j hj => e6 j hj) e7).1
      omega
    have hu : ∀ q i, (q, i) ∈ (p, n) :: L → mk (q / 4) = false := by
      intro q i h
      rcases List.mem_cons.1 h with h | h
      · injection h with h1 h2; rw [h1]; exact e4
      · exact hum q i h
    obtain ⟨d1, d2⟩ := e5'.drop (n := p) (i := n) List.mem_cons_self
    exact ⟨p, e1, e2, e4, ⟨e5', ht, hu⟩, d1, ⟨d2, ht, fun q i h => hu q i (List.mem_filter.1 h).1⟩⟩
/-- the sealed ones -/
def seaL (s : SM) (c : CM) : List Nat := (List.range s.B).filter (sealB s c)
theorem sealed_eq (s : SM) (c : CM) : sealedS s c = (seaL s c).map fun i : Nat => (i : Int) := rfl
theorem pagesOf_cnt (hC : Cont s c) (hP : s.P = 4) {k : Nat} (hk : k < s.B) : (pagesOf s k).length = cntTo (fun p => isN s (k * 4 + p)) 4 := by
  rw [pagesOf_eq hC hk, List.length_map, hP]
  rfl
theorem pages_needed (hC : Cont s c) (k : Nat) : (pagesOf s k).length = (Yneeded s.y k).length := by unfold pagesOf; rw [List.length_map]
theorem sealB_iff {k : Nat} {x : CB} (hx : c.blocks[k]? = some x) : sealB s c k = true ↔ x.mark = false ∧ 0 < (Yneeded s.y k).length ∧ (s.op ≠ (k : Int) ∨ leftI s c = 0) := by
  unfold sealB
  rw [mark_at hx]
  simp only [Bool.and_eq_true, Bool.not_eq_true', Bool.or_eq_true, decide_eq_true_eq, ne_eq]
  rw [show ((k : Int) = s.op) = (s.op = (k : Int)) from propext ⟨Eq.symm, Eq.symm⟩]
theorem seaL_at (hC : Cont s c) (hB : s.B = 16) {t : Nat} (ht : t < (seaL s c).length) : (seaL s c)[t] < 16 ∧ c.markOf ((seaL s c)[t] : Nat) = false ∧ (pagesOf s ((seaL s c)[t] : Nat)).length ≠ 0 := by
  have h := List.mem_filter.1 (List.getElem_mem ht)
  have hj := List.mem_range.1 h.1
  generalize (seaL s c)[t] = j at *
  obtain ⟨x, hx⟩ := hC.bget hj
  obtain ⟨h1, h2, _⟩ := (sealB_iff hx).1 h.2
  exact ⟨by omega, by rw [mark_at hx]; exact h1, by rw [pages_needed hC]; omega⟩
theorem seaL_lt {t u : Nat} (hu : u < (seaL s c).length) (htu : t < u) : (seaL s c)[t] < (seaL s c)[u] :=
  (List.pairwise_iff_getElem.1 (show (seaL s c).Pairwise (· < ·) from List.pairwise_lt_range.filter (sealB s c))) t u (by omega) hu htu
def allTo (s : SM) (l : List Nat) : Nat := (l.map fun j : Nat => (pagesOf s (j : Int)).length).sum
theorem allTo_snoc (s : SM) (l : List Nat) (j : Nat) : allTo s (l ++ [j]) = allTo s l + (pagesOf s (j : Int)).length := by
  unfold allTo
  rw [List.map_append, List.sum_append]
  simp
theorem allTo_le (h : ∀ j : Nat, (pagesOf s (j : Int)).length ≤ 8) : ∀ l : List Nat, allTo s l ≤ 8 * l.length
  | [] => Nat.le_refl _
  | a :: l => by
    have := allTo_le h l
    have h1 := h a
    unfold allTo at *
    rw [List.map_cons, List.sum_cons, List.length_cons]
    omega
theorem allTo_take {l : List Nat} {t : Nat} (ht : t < l.length) : allTo s (l.take (t + 1)) = allTo s (l.take t) + (pagesOf s (l[t] : Nat)).length := by
  rw [List.take_succ_eq_append_getElem ht, allTo_snoc]
theorem SeI.left {mk : Nat → Bool} {n : Nat} {L : List (Nat × Nat)} (I : SeI mk n s c L) : allTo s (seaL s c) ≤ (neededS s).length ∧ (neededS s).length ≤ allTo s (seaL s c) + 4 := by
  obtain ⟨hI, htot, hum⟩ := I
  have hC := hI.has.cont
  have hB := hI.has.geo.1
  have hP := hI.has.geo.2.1
  have key : ∀ k : Nat, k ≤ 16 → allTo s ((List.range k).filter (sealB s c)) ≤ cntTo (isN s) (k * 4) ∧ cntTo (isN s) (k * 4) ≤ allTo s ((List.range k).filter (sealB s c)) + (if s.op < k then 4 else 0) := by
    intro k
    induction k with
    | zero => intro _; exact ⟨Nat.le_refl _, by show 0 ≤ _; omega⟩
    | succ k ih =>
      intro hk
      have IH := ih (by omega)
      obtain ⟨x, hx⟩ := hC.bget (k := k) (by omega)
      have hlen := pagesOf_cnt hC hP (k := k) (by omega)
      rw [cntTo_blk, filter_snoc, ← hlen]
      cases hb : sealB s c k with
      | true =>
        rw [if_pos rfl, allTo_snoc]
        refine ⟨by omega, ?_⟩
        by_cases h1 : s.op < (k : Int)
        · rw [if_pos h1] at IH; rw [if_pos (by omega)]; omega
        · rw [if_neg h1] at IH; omega
      | false =>
        rw [if_neg (by simp)]
        by_cases ho : s.op = (k : Int)
        · have h4 : cntTo (fun p => isN s (k * 4 + p)) 4 ≤ 4 := cntTo_le _ 4 4 fun j hj _ => hj
          rw [if_neg (by omega)] at IH
          rw [if_pos (by omega)]
          omega
        · have hz : (pagesOf s k).length = 0 := by
            refine Classical.byContradiction fun hne => ?_
            have hnp : 0 < (Yneeded s.y k).length := by rw [← pages_needed hC]; omega
            have hm : x.mark = true := by
              cases hm : x.mark with
              | true => rfl
              | false => exact absurd ((sealB_iff hx).2 ⟨hm, hnp, Or.inl ho⟩) (by rw [hb]; simp)
            -- nothing is needed of a marked one
            have : noneed s k := by
              intro q hq
              rw [hP] at hq ⊢
              refine Classical.byContradiction fun hl => ?_
              rw [← nat_key] at hl
              obtain ⟨i, hi⟩ := hI.only (k * 4 + q) (by omega) hl
              have h1 := hum _ _ hi
              rw [show (k * 4 + q) / 4 = k by omega, ← hI.mark k x hx, hm] at h1
              exact absurd h1 (by simp)
            rw [(hC.needed_nil (by omega)).2 this] at hnp
            exact absurd hnp (by simp)
          rw [hz]
          refine ⟨by omega, ?_⟩
          by_cases h1 : s.op < (k : Int)
          · rw [if_pos h1] at IH; rw [if_pos (by omega)]; omega
          · rw [if_neg h1] at IH; omega
  obtain ⟨k1, k2⟩ := key 16 (Nat.le_refl _)
  have hop := hC.opb
  rw [if_pos (by omega)] at k2
  rw [hI.neededLen]
  have e : seaL s c = (List.range 16).filter (sealB s c) := by unfold seaL; rw [hB]
  rw [e]
  exact ⟨k1, k2⟩
theorem seI_new (marks : List Int) :
    (newS (CM.new 16 4 128 marks [])).2 = (CM.new 16 4 128 marks [], 0) ∧ SeI (fun j => marks.contains (j : Int)) 0 (newS (CM.new 16 4 128 marks [])).1 (CM.new 16 4 128 marks []) [] := by
  obtain ⟨h1, h2⟩ := lawI_new 1 marks [] (N := 1000000) (by simp) (by simp)
  refine ⟨h1, h2, ?_, fun p i h => absurd h (by simp)⟩
  rw [totI_zero (f := fun j => (CM.new 16 4 128 marks []).nextOf (j : Nat)) (fun j => new_next 16 4 128 marks [] j)]
  exact Int.le_refl _
end Go.Proofs.YtoelopghilbfeaaGreat
