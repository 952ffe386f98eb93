/-
  Chapter 16, plain: how many pages are needed, how much room there is.
-/
import Derived.Test.YtoelopghilbfeaaGreatSpY
namespace Go.Proofs.YtoelopghilbfeaaGreat
open Go.RowKit
set_option linter.unusedSimpArgs false
set_option linter.unusedVariables false

variable {s s' : SM} {c c' : CM}
/-- a sum over blocks -/
def totI (f : Nat → Int) : Nat → Int
  | 0 => 0
  | n + 1 => totI f n + f n
theorem totI_step {f g : Nat → Int} {k : Nat} (n : Nat) (h1 : ∀ j, j ≠ k → g j = f j) (h2 : g k ≤ f k + 1) : totI g n ≤ totI f n + 1 ∧ (n ≤ k → totI g n = totI f n) := by
  induction n with
  | zero => exact ⟨by show (0 : Int) ≤ 0 + 1; omega, fun _ => rfl⟩
  | succ n ih =>
    obtain ⟨a, b⟩ := ih
    show totI g n + g n ≤ totI f n + f n + 1 ∧ (n + 1 ≤ k → totI g n + g n = totI f n + f n)
    by_cases e : n = k
    · subst e
      have := b (Nat.le_refl _)
      exact ⟨by omega, by omega⟩
    · have := h1 n e
      refine ⟨by omega, fun h => ?_⟩
      have := b (by omega)
      omega
theorem totI_full {f : Nat → Int} {mk : Nat → Bool} (n : Nat) (h0 : ∀ j, 0 ≤ f j) (h : ∀ j, j < n → mk j = false → f j = 4) : 4 * ((n : Int) - mkTo mk n) ≤ totI f n := by
  induction n with
  | zero => show 4 * ((0 : Int) - ((mkTo mk 0 : Nat) : Int)) ≤ 0; have : mkTo mk 0 = 0 := rfl; omega
  | succ n ih =>
    have := ih fun j hj => h j (by omega)
    show _ ≤ totI f n + f n
    rw [mkTo_succ]
    cases hm : mk n with
    | true => rw [if_pos rfl]; have := h0 n; omega
    | false => rw [if_neg (by simp)]; have := h n (by omega) hm; omega
theorem totI_zero {f : Nat → Int} (h : ∀ j, f j = 0) (n : Nat) : totI f n = 0 := by
  induction n with
  | zero => rfl
  | succ n ih => show totI f n + f n = 0; rw [ih, h]; rfl
theorem sub_len {α : Type} [DecidableEq α] : ∀ (l m : List α), l.Nodup → (∀ x ∈ l, x ∈ m) → l.length ≤ m.length
  | [], m, _, _ => Nat.zero_le _
  | a :: l, m, hn, hs => by
    rw [List.nodup_cons] at hn
    have ha := hs a List.mem_cons_self
    have := sub_len l (m.erase a) hn.2 fun x hx => (List.mem_erase_of_ne (by rintro rfl; exact hn.1 hx)).2 (hs x (List.mem_cons_of_mem _ hx))
    rw [List.length_erase_of_mem ha] at this
    have := List.length_pos_of_mem ha
    rw [List.length_cons]
    omega
theorem mkTo_le (marks : List Int) (n : Nat) : mkTo (fun j => marks.contains (j : Int)) n ≤ marks.length := by
  unfold mkTo
  have h := sub_len (((List.range n).filter fun j : Nat => marks.contains (j : Int)).map fun j : Nat => (j : Int)) marks ?_ ?_
  · rw [List.length_map] at h; exact h
  · have hn : ((List.range n).filter fun j : Nat => marks.contains (j : Int)).Nodup := List.nodup_range.filter _
    generalize (List.range n).filter (fun j : Nat => marks.contains (j : Int)) = l at hn
    induction l with
    | nil => exact List.nodup_nil
    | cons a t ih =>
      have h2 := List.nodup_cons.1 hn
      rw [List.map_cons, List.nodup_cons]
      refine ⟨fun hm => ?_, ih h2.2⟩
      obtain ⟨b, hb, e⟩ := List.mem_map.1 hm
      exact h2.1 (by have : b = a := by omega
                     rw [← this]; exact hb)
  · intro x hx
    obtain ⟨j, hj, rfl⟩ := List.mem_map.1 hx
    have := (List.mem_filter.1 hj).2
    simpa using this

/-! how many are needed -/
def cntTo (f : Nat → Bool) (n : Nat) : Nat := ((List.range n).filter f).length
theorem cntTo_succ (f : Nat → Bool) (n : Nat) : cntTo f (n + 1) = if f n then cntTo f n + 1 else cntTo f n := mkTo_succ f n
theorem cntTo_flip {f g : Nat → Bool} {k : Nat} (n : Nat) (h1 : ∀ j, j < n → j ≠ k → g j = f j) (hf : f k = false) (hg : g k = true) : cntTo g n = if k < n then cntTo f n + 1 else cntTo f n := by
  induction n with
  | zero => rw [if_neg (by omega)]; rfl
  | succ n ih0 =>
    have ih := ih0 fun j hj => h1 j (by omega)
    by_cases e : n = k
    · subst e
      have ih' : cntTo g n = cntTo f n := by rw [ih, if_neg (by omega)]
      rw [cntTo_succ g, cntTo_succ f, hf, hg, ih', if_pos (show n < n + 1 by omega)]
      simp
    · by_cases e2 : k < n
      · have ih' : cntTo g n = cntTo f n + 1 := by rw [ih, if_pos e2]
        rw [cntTo_succ g, cntTo_succ f, h1 n (by omega) e, ih', if_pos (show k < n + 1 by omega)]
        split <;> rfl
      · have ih' : cntTo g n = cntTo f n := by rw [ih, if_neg e2]
        rw [cntTo_succ g, cntTo_succ f, h1 n (by omega) e, ih', if_neg (show ¬ k < n + 1 by omega)]
theorem numsIf_len (f : Nat → Bool) (n : Nat) : (numsIf f n).length = cntTo f n := by unfold numsIf cntTo; rw [List.length_map]
theorem cntTo_blk (f : Nat → Bool) (k : Nat) : cntTo f ((k + 1) * 4) = cntTo f (k * 4) + cntTo (fun p => f (k * 4 + p)) 4 := by
  unfold cntTo
  rw [range_mul, List.filter_append, List.length_append, List.filter_map, List.length_map]
  rfl
theorem cntTo_le (f : Nat → Bool) (n m : Nat) (h : ∀ j, j < n → f j = true → j < m) : cntTo f n ≤ m := by
  induction n with
  | zero => exact Nat.zero_le _
  | succ n ih =>
    rw [cntTo_succ]
    have := ih fun j hj => h j (by omega)
    split
    · next hf =>
      have h1 := h n (by omega) hf
      have h2 : cntTo f n ≤ n := by unfold cntTo; have := List.length_filter_le f (List.range n); rw [List.length_range] at this; exact this
      omega
    · exact this
theorem cntTo_none (f : Nat → Bool) (n : Nat) (h : ∀ j, j < n → f j = false) : cntTo f n = 0 := by
  have := cntTo_le f n 0 fun j hj ht => by rw [h j hj] at ht; exact absurd ht (by simp)
  omega
/-- room, and what is needed: no more than the chip has -/
theorem room_le (hC : Cont s c) (hB : s.B = 16) (hP : s.P = 4) : roomS s c + cntTo (isN s) 64 ≤ 64 := by
  have hlen : (emptyL s c).length = cntTo (countB s c) 16 := by
    unfold emptyL orderW
    rw [sortK_len]
    unfold countTo cntTo
    rw [List.length_map]
    have : (countsL s c).length = 16 := by unfold countsL; rw [List.length_map, List.length_range, hB]
    rw [this]
    congr 1
    refine List.filter_congr fun j hj => ?_
    have hj' := List.mem_range.1 hj
    unfold countsL
    rw [List.getD_eq_getElem?_getD, List.getElem?_map, List.getElem?_range (by omega)]
    rfl
  have key : ∀ k : Nat, k ≤ 16 → (cntTo (isN s) (k * 4) : Int) + 4 * (cntTo (countB s c) k : Int) + (if s.op < k then leftI s c else 0) ≤ 4 * k := by
    intro k
    induction k with
    | zero =>
      intro _
      have h1 : cntTo (isN s) (0 * 4) = 0 := rfl
      have h2 : cntTo (countB s c) 0 = 0 := rfl
      rw [h1, h2]
      split
      · have := hC.opb
        have : s.op = -1 := by omega
        unfold leftI
        rw [if_pos this]
        omega
      · omega
    | succ k ih =>
      intro hk
      have IH := ih (by omega)
      obtain ⟨x, hx⟩ := hC.bget (k := k) (by omega)
      have hsh := hC.shape k x hx
      have hiN : ∀ p : Nat, isN s (k * 4 + p) = (lookS s.hs ((k : Int) * s.P + p)).isSome := by
        intro p; unfold isN; rw [hP, ← nat_key]
      rw [cntTo_blk, cntTo_succ (countB s c) k]
      have hc1 : cntTo (fun p => isN s (k * 4 + p)) 4 ≤ x.next.toNat := by
        refine cntTo_le _ 4 _ fun p hp ht => ?_
        rw [hiN] at ht
        cases e : lookS s.hs ((k : Int) * s.P + p) with
        | none => rw [e] at ht; exact absurd ht (by simp)
        | some h => have := hC.below hx (by rw [hP]; exact hp) e; omega
      have hn4 := hsh.2.2.1
      have hn0 := hsh.2.1
      cases hb : countB s c k with
      | true =>
        rw [if_pos rfl]
        obtain ⟨_, hnn, hop⟩ := (countB_iff hC hx).1 hb
        have hz : cntTo (fun p => isN s (k * 4 + p)) 4 = 0 := cntTo_none _ _ fun p hp => by
          rw [hiN, hnn p (by rw [hP]; exact hp)]; rfl
        rw [hz]
        by_cases ho : s.op = (k : Int)
        · have h0 : leftI s c = 0 := by rcases hop with h | h
                                        · exact absurd ho h
                                        · exact h
          rw [if_neg (by omega)] at IH
          split <;> omega
        · by_cases h1 : s.op < (k : Int)
          · rw [if_pos h1] at IH; rw [if_pos (by omega)]; omega
          · rw [if_neg h1] at IH; rw [if_neg (by omega)]; omega
      | false =>
        rw [if_neg (by simp)]
        by_cases ho : s.op = (k : Int)
        · have := left_at hC ho hx
          rw [if_neg (by omega)] at IH
          rw [if_pos (by omega)]
          rw [hP] at this hn4
          omega
        · rw [hP] at hn4
          by_cases h1 : s.op < (k : Int)
          · rw [if_pos h1] at IH; rw [if_pos (by omega)]; omega
          · rw [if_neg h1] at IH; rw [if_neg (by omega)]; omega
  have K := key 16 (Nat.le_refl _)
  have hop := hC.opb
  rw [if_pos (by omega)] at K
  unfold roomS
  rw [hlen, hP]
  have e : (16 * 4 : Nat) = 64 := rfl
  rw [e] at K
  omega
theorem LawI.isN {N κ : Int} {mk : Nat → Bool} {M : Int} {L : List (Nat × Nat)} (I : LawI N κ mk M L s c) {m : Nat} (hm : m < 64) : isN s m = true ↔ ∃ i, (m, i) ∈ L := by
  unfold Go.Proofs.YtoelopghilbfeaaGreat.isN
  constructor
  · intro h
    exact I.only m hm fun e => by rw [e] at h; exact absurd h (by simp)
  · rintro ⟨i, hi⟩
    rw [(I.has.has m i hi).2.1]
    rfl
/-- pages that were put, and which of them are needed still -/
structure PlI (n : Nat) (is : Nat → Bool) (at_ : Nat → Nat) (left : Nat) (s : SM) (c : CM) (L : List (Nat × Nat)) : Prop where
  law : LawI 1000000 2 (fun _ => false) (2 * n) L s c
  tot : totI (fun j => c.nextOf j) 16 ≤ n
  cnt : cntTo (Go.Proofs.YtoelopghilbfeaaGreat.isN s) 64 = left
  iff : ∀ p i, (p, i) ∈ L ↔ (p < 64 ∧ is p = true ∧ at_ p = i)
  small : ∀ p i, (p, i) ∈ L → i < n
theorem LawI.next0 {N κ : Int} {mk : Nat → Bool} {M : Int} {L : List (Nat × Nat)} (I : LawI N κ mk M L s c) (j : Nat) : 0 ≤ c.nextOf j := by
  unfold CM.nextOf
  rw [blk_at]
  cases h : c.blocks[j]? with
  | none => exact Int.le_refl _
  | some x => exact (I.has.cont.shape j x h).2.1
def updF {α : Type} (f : Nat → α) (p : Nat) (x : α) : Nat → α := fun q => if q = p then x else f q
theorem PlI.put {n : Nat} {is : Nat → Bool} {at_ : Nat → Nat} {left : Nat} {L : List (Nat × Nat)} (I : PlI n is at_ left s c L) (hn : n < 64) :
    ∃ p : Nat, (putA s c (hdK 2 n) (fillL n 128)).2.2 = ((p : Int), 0) ∧ p < 64 ∧ is p = false ∧ roomS (putA s c (hdK 2 n) (fillL n 128)).1 (putA s c (hdK 2 n) (fillL n 128)).2.1 + left + 1 ≤ 64 ∧
      PlI (n + 1) (updF is p true) (updF at_ p n) (left + 1) (putA s c (hdK 2 n) (fillL n 128)).1 (putA s c (hdK 2 n) (fillL n 128)).2.1 ((p, n) :: L) := by
  obtain ⟨hI, htot, hcnt, hiff, hsm⟩ := I
  rcases hI.put (by omega) (i := n) (by omega) (Or.inr rfl) with ⟨_, hf⟩ | ⟨p, e1, e2, e3, e4, e5, e6, e7, _⟩
  · have h1 := totI_full (f := fun j => c.nextOf j) (mk := fun _ => false) 16 (fun j => hI.next0 j) fun j hj hm => (hf j hj hm).1
    rw [mkTo_zero (fun _ => rfl)] at h1
    omega
  · generalize putA s c (hdK 2 n) (fillL n 128) = r at *
    have hpn : Go.Proofs.YtoelopghilbfeaaGreat.isN s p = false := by unfold Go.Proofs.YtoelopghilbfeaaGreat.isN; rw [e3]; rfl
    have hnL : ∀ i, (p, i) ∉ L := fun i h => by have := (hI.isN e2).2 ⟨i, h⟩; rw [hpn] at this; exact absurd this (by simp)
    have hisp : is p = false := by
      cases h : is p with
      | false => rfl
      | true => exact absurd ((hiff p (at_ p)).2 ⟨e2, h, rfl⟩) (hnL _)
    have e5' : LawI 1000000 2 (fun _ => false) (2 * ((n + 1 : Nat) : Int)) ((p, n) :: L) r.1 r.2.1 := by
      have e : 2 * ((n + 1 : Nat) : Int) = 2 * (n : Int) + 2 := by omega
      rw [e]; exact e5
    have hcnt' : cntTo (Go.Proofs.YtoelopghilbfeaaGreat.isN r.1) 64 = left + 1 := by
      have := cntTo_flip (f := Go.Proofs.YtoelopghilbfeaaGreat.isN s) (g := Go.Proofs.YtoelopghilbfeaaGreat.isN r.1) (k := p) 64 (fun j hj hne => by
        rw [Bool.eq_iff_iff, e5.isN hj, hI.isN hj]
        constructor
        · rintro ⟨i, hi⟩
          rcases List.mem_cons.1 hi with h | h
          · injection h with h1 h2; exact absurd h1 hne
          · exact ⟨i, h⟩
        · rintro ⟨i, hi⟩
          exact ⟨i, List.mem_cons_of_mem _ hi⟩) hpn ((e5.isN e2).2 ⟨n, List.mem_cons_self⟩)
      rw [this, if_pos e2, hcnt]
    refine ⟨p, e1, e2, hisp, ?_, e5', ?_, hcnt', ?_, fun q i h => by
      rcases List.mem_cons.1 h with h | h
      · injection h with h1 h2; omega
      · have := hsm q i h; omega⟩
    · have := room_le e5.has.cont e5.has.geo.1 e5.has.geo.2.1
      rw [hcnt'] at this
      omega
    · have := (totI_step (f := fun j => c.nextOf (j : Nat)) (g := fun j => r.2.1.nextOf (j : Nat)) (k := p / 4) 16 (fun j hj => e6 j hj) e7).1
      show totI (fun j => r.2.1.nextOf (j : Nat)) 16 ≤ ((n + 1 : Nat) : Int)
      omega
    · intro q i
      unfold updF
      by_cases e : q = p
      · subst e
        rw [if_pos rfl, if_pos rfl]
        constructor
        · intro h
          rcases List.mem_cons.1 h with h | h
          · injection h with h1 h2; exact ⟨e2, rfl, h2.symm⟩
          · exact absurd h (hnL i)
        · rintro ⟨_, _, h⟩
          rw [h]
          exact List.mem_cons_self
      · rw [if_neg e, if_neg e, ← hiff q i]
        constructor
        · intro h
          rcases List.mem_cons.1 h with h | h
          · injection h with h1 h2; exact absurd h1 e
          · exact h
        · exact fun h => List.mem_cons_of_mem _ h
theorem PlI.drop {n : Nat} {is : Nat → Bool} {at_ : Nat → Nat} {left : Nat} {L : List (Nat × Nat)} (I : PlI n is at_ (left + 1) s c L) {p : Nat} (hp : p < 64) (his : is p = true) :
    (dropS s p).2 = 0 ∧ PlI n (updF is p false) at_ left (dropS s p).1 c (L.filter fun q => decide (q.1 ≠ p)) := by
  obtain ⟨hI, htot, hcnt, hiff, hsm⟩ := I
  have hmem := (hiff p (at_ p)).2 ⟨hp, his, rfl⟩
  obtain ⟨d1, d2⟩ := hI.drop hmem
  have hgone : Go.Proofs.YtoelopghilbfeaaGreat.isN (dropS s p).1 p = false := by
    cases h : Go.Proofs.YtoelopghilbfeaaGreat.isN (dropS s p).1 p with
    | false => rfl
    | true =>
      obtain ⟨i, hi⟩ := (d2.isN hp).1 h
      have := (List.mem_filter.1 hi).2
      simp at this
  have hcnt' := cntTo_flip (f := Go.Proofs.YtoelopghilbfeaaGreat.isN (dropS s p).1) (g := Go.Proofs.YtoelopghilbfeaaGreat.isN s) (k := p) 64 (fun j hj hne => by
    rw [Bool.eq_iff_iff, d2.isN hj, hI.isN hj]
    constructor
    · rintro ⟨i, hi⟩
      exact ⟨i, List.mem_filter.2 ⟨hi, by simpa using hne⟩⟩
    · rintro ⟨i, hi⟩
      exact ⟨i, (List.mem_filter.1 hi).1⟩) hgone ((hI.isN hp).2 ⟨_, hmem⟩)
  rw [if_pos hp, hcnt] at hcnt'
  refine ⟨d1, d2, htot, by omega, ?_, fun q i h => hsm q i (List.mem_filter.1 h).1⟩
  intro q i
  unfold updF
  rw [List.mem_filter, hiff q i]
  by_cases e : q = p
  · subst e
    simp
  · rw [if_neg e]
    simp [e]
theorem LawI.neededLen {N κ : Int} {mk : Nat → Bool} {M : Int} {L : List (Nat × Nat)} (I : LawI N κ mk M L s c) : (neededS s).length = cntTo (Go.Proofs.YtoelopghilbfeaaGreat.isN s) 64 := by
  rw [needed_eq I.has.cont, numsIf_len, I.has.geo.1, I.has.geo.2.1]
end Go.Proofs.YtoelopghilbfeaaGreat
