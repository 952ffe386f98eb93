/-
  Chapter 11: the plain side of YardLives: a yard of n fresh blocks, of which the k-th is worked on.
-/
import Derived.Test.YteaeahhjkagbdaaL11P
namespace Go.Proofs.Yteaeahhjkagbdaa
open Go.RowKit
set_option linter.unusedSimpArgs false
set_option linter.unusedVariables false

def yL (n k : Nat) (x : YB) : List YB := (Ynew n 4).set k x
theorem yL_len (n k : Nat) (x : YB) : (yL n k x).length = n := by simp [yL, Ynew]
theorem yL_at {n k : Nat} (x : YB) (hk : k < n) : Yat (yL n k x) (k : Int) = some x := by
  unfold Yat
  rw [if_pos ⟨by omega, by rw [yL_len]; omega⟩]
  simp [yL, Ynew, hk]
theorem yL_set (n k : Nat) (x z : YB) : Yset (yL n k x) (k : Int) z = yL n k z := by
  unfold Yset yL
  simp
theorem yL_new {n k : Nat} (hk : k < n) : Ynew n 4 = yL n k (ybF 4) := by
  unfold yL
  apply List.ext_getElem?
  intro i
  rw [List.getElem?_set]
  by_cases h : k = i
  · subst h; simp [Ynew, ybF, hk]
  · simp [h]
theorem yL_open {n k : Nat} {x : YB} (hk : k < n) (hx : x.state = 1) : Yopen (yL n k x) (k : Int) = (yL n k { x with state := 2, taken := 0 }, 0) := by
  unfold Yopen; rw [yL_at x hk]; simp only; rw [if_pos hx, yL_set]
theorem yL_open_no {n k : Nat} {x : YB} (hk : k < n) (hx : x.state ≠ 1) : Yopen (yL n k x) (k : Int) = (yL n k x, 9) := by
  unfold Yopen; rw [yL_at x hk]; simp only; rw [if_neg hx]
theorem yL_next {n k : Nat} {x : YB} (hk : k < n) (hx : x.state = 2) (ht : x.taken < (x.pages.length : Int)) : Ynext (yL n k x) (k : Int) = (yL n k { x with taken := x.taken + 1 }, x.taken, 0) := by
  unfold Ynext; rw [yL_at x hk]; simp only; rw [if_neg (by simp [hx]), if_neg (by omega), yL_set]
theorem yL_next_full {n k : Nat} {x : YB} (hk : k < n) (hx : x.state = 2) (ht : (x.pages.length : Int) ≤ x.taken) : Ynext (yL n k x) (k : Int) = (yL n k x, 0, 7) := by
  unfold Ynext; rw [yL_at x hk]; simp only; rw [if_neg (by simp [hx]), if_pos ht]
theorem yL_seal {n k : Nat} {x : YB} (hk : k < n) (hx : x.state = 2) : Yturn (yL n k x) (k : Int) 2 3 = (yL n k { x with state := 3 }, 0) := by
  rw [Yturn_ok (yL_at x hk) hx, yL_set]
theorem yL_state {n k : Nat} (x : YB) (hk : k < n) : Ystate (yL n k x) (k : Int) = x.state := by
  unfold Ystate; rw [yL_at x hk]
theorem yL_retire {n k : Nat} {x : YB} (hk : k < n) (hx : x.state ≠ 4) : Yretire (yL n k x) (k : Int) = (yL n k { x with state := 4 }, 0) := by
  unfold Yretire; rw [yL_at x hk]; simp only; rw [if_neg hx, yL_set]
theorem yL_retire_no {n k : Nat} {x : YB} (hk : k < n) (hx : x.state = 4) : Yretire (yL n k x) (k : Int) = (yL n k x, 9) := by
  unfold Yretire; rw [yL_at x hk]; simp only; rw [if_pos hx]
/-- a block with the pages f -/
def xP (s t : Int) (f : Nat → Bool × Bool) : YB := ⟨s, t, (List.range 4).map f⟩
theorem ybF_xP : ybF 4 = xP 1 0 (fun _ => (false, false)) := by rfl
theorem xP_len (s t : Int) (f : Nat → Bool × Bool) : (xP s t f).pages.length = 4 := by simp [xP]
theorem yL_pg {n k : Nat} (s t : Int) (f : Nat → Bool × Bool) {p : Nat} (hk : k < n) (hp : p < 4) : Ypg (yL n k (xP s t f)) (k : Int) (p : Int) = some (xP s t f, f p) := by
  unfold Ypg
  rw [yL_at _ hk]
  simp only [xP_len]
  rw [if_pos ⟨by omega, by omega⟩]
  simp [List.getD, xP, hp]
theorem yL_pset (n k : Nat) (s t : Int) (f : Nat → Bool × Bool) (p : Nat) (u : Bool × Bool) : Ypset (yL n k (xP s t f)) (k : Int) (p : Int) (xP s t f) u = yL n k (xP s t (updP f p u)) := by
  unfold Ypset
  rw [yL_set, Int.toNat_natCast]
  unfold xP
  rw [map_updP]
theorem yL_need {n k : Nat} {s t : Int} {f : Nat → Bool × Bool} {p : Nat} (d : Bool) (hk : k < n) (hp : p < 4) (ht : (p : Int) < t) (hf : (f p).1 = false) : Yneed (yL n k (xP s t f)) (k : Int) (p : Int) d = (yL n k (xP s t (updP f p (true, d))), 0) := by
  unfold Yneed
  rw [yL_pg s t f hk hp]
  simp only
  rw [if_neg (by simp [hf, xP]; omega), yL_pset]
theorem yL_drop {n k : Nat} {s t : Int} {f : Nat → Bool × Bool} {p : Nat} (hk : k < n) (hp : p < 4) (hf : (f p).1 = true) : Ydrop (yL n k (xP s t f)) (k : Int) (p : Int) = (yL n k (xP s t (updP f p (false, false))), 0) := by
  unfold Ydrop
  rw [yL_pg s t f hk hp]
  simp only
  rw [if_pos hf, yL_pset]
theorem yL_needed {n k : Nat} (s t : Int) (f : Nat → Bool × Bool) (hk : k < n) : Yneeded (yL n k (xP s t f)) (k : Int) = ((List.range 4).filter fun i => (f i).1).map fun i : Nat => (i : Int) := by
  unfold Yneeded
  rw [yL_at _ hk]
  simp only [xP_len, neededTo]
  refine congrArg _ (List.filter_congr fun a ha => ?_)
  have ha := List.mem_range.1 ha
  simp [xP, List.getD, ha]
theorem yL_dirty {n k : Nat} (s t : Int) (f : Nat → Bool × Bool) (hk : k < n) : Ydirty (yL n k (xP s t f)) (k : Int) = (((List.range 4).filter fun i => (f i).2).length : Int) := by
  unfold Ydirty
  rw [yL_at _ hk]
  simp only [xP_len, dirtyTo]
  refine congrArg _ (congrArg _ (List.filter_congr fun a ha => ?_))
  have ha := List.mem_range.1 ha
  simp [xP, List.getD, ha]
theorem yL_free {n k : Nat} {s t : Int} {f : Nat → Bool × Bool} (hk : k < n) (hs : s = 2 ∨ s = 3) (hf : ((List.range 4).filter fun i => (f i).1) = []) : Yfree (yL n k (xP s t f)) (k : Int) = (yL n k (xP 1 0 f), 0) := by
  unfold Yfree
  rw [yL_at _ hk, yL_needed s t f hk, hf]
  simp only [List.map_nil]
  rw [if_neg (by simp [xP]; omega), yL_set]
  rfl
theorem yL_free_no {n k : Nat} {s t : Int} {f : Nat → Bool × Bool} (hk : k < n) (hf : ((List.range 4).filter fun i => (f i).1) ≠ [] ∨ (s ≠ 2 ∧ s ≠ 3)) : Yfree (yL n k (xP s t f)) (k : Int) = (yL n k (xP s t f), 9) := by
  unfold Yfree
  rw [yL_at _ hk, yL_needed s t f hk]
  simp only
  rw [if_pos]
  rcases hf with h | h
  · exact .inr (by simpa using h)
  · exact .inl (by simpa [xP] using h)
theorem yL_getD {n k : Nat} (x : YB) (i : Nat) (hk : k < n) (hi : i < n) : (yL n k x).getD i ⟨0, 0, []⟩ = if i = k then x else ybF 4 := by
  by_cases h : i = k
  · subst h; simp [yL, Ynew, hk]
  · have h' : ¬ k = i := fun e => h e.symm
    simp [yL, Ynew, hi, h, h', List.getD, List.getElem?_set, ybF]
theorem yL_list1 {n k : Nat} {x : YB} (hk : k < n) (hx : x.state = 1) : (listTo (yL n k x) 1 (yL n k x).length).length = n := by
  rw [yL_len]
  unfold listTo
  rw [List.length_map, List.filter_eq_self.2, List.length_range]
  intro a ha
  have ha := List.mem_range.1 ha
  rw [yL_getD x a hk ha]
  split
  · simp [hx]
  · rfl
theorem yL_list4 {n k : Nat} {x : YB} (hk : k < n) (hx : x.state = 4) : listTo (yL n k x) 4 (yL n k x).length = [(k : Int)] := by
  rw [yL_len]
  unfold listTo
  have h : (List.range n).filter (fun i => decide (((yL n k x).getD i ⟨0, 0, []⟩).state = 4)) = (List.range n).filter (fun i => decide (i = k)) := by
    apply List.filter_congr
    intro a ha
    have ha := List.mem_range.1 ha
    rw [yL_getD x a hk ha]
    by_cases h : a = k <;> simp [h, hx, ybF]
  have h2 : ∀ m, (List.range m).filter (fun i => decide (i = k)) = if k < m then [k] else [] := by
    intro m
    induction m with
    | zero => simp
    | succ m ih =>
      rw [List.range_succ, List.filter_append, ih]
      by_cases h1 : k < m
      · simp [h1, show ¬ m = k by omega, show k < m + 1 by omega]
      · by_cases h3 : m = k
        · simp [h3]
        · simp [h1, h3, show ¬ k < m + 1 by omega]
  rw [h, h2, if_pos hk]; rfl
theorem yL_list1r {n k : Nat} {x : YB} (hk : k < n) (hx : x.state = 4) : (listTo (yL n k x) 1 (yL n k x).length).length = n - 1 := by
  rw [yL_len]
  unfold listTo
  have h : (List.range n).filter (fun i => decide (((yL n k x).getD i ⟨0, 0, []⟩).state = 1)) = (List.range n).filter (fun i => !decide (i = k)) := by
    apply List.filter_congr
    intro a ha
    have ha := List.mem_range.1 ha
    rw [yL_getD x a hk ha]
    by_cases h : a = k <;> simp [h, hx, ybF]
  have h2 : ∀ m, ((List.range m).filter (fun i => !decide (i = k))).length = if k < m then m - 1 else m := by
    intro m
    induction m with
    | zero => simp
    | succ m ih =>
      rw [List.range_succ, List.filter_append, List.length_append, ih]
      by_cases h1 : k < m
      · simp [h1, show ¬ m = k by omega, show k < m + 1 by omega]; omega
      · by_cases h3 : m = k
        · simp [h3]
        · simp [h1, h3, show ¬ k < m + 1 by omega]
  rw [List.length_map, h, h2, if_pos hk]
theorem ystate_nil (b : Int) {w : World} {Fr : HL} (hH : Holds w Fr) : Calls Try.prog 58 #[.pointer none, .int .i64 b] w (RetFr (.int .i64 0) w Fr) := by
  have HN := Lib.hid (yat_nil (w := w) b hH)
  have hne := err_ne
  go_enter Try.func58, Try.ntmps58
  go_wp2_with fail
  refine HN.out.mono ?_
  rintro e w1 ⟨ve, H1, rfl, he, hH1, hg1⟩
  obtain ⟨be, se, rfl, rfl⟩ := isErrP he (show (1 : Int) ≠ 0 by decide)
  clear HN he
  go_wp2_with fail
  go_ret
  exact ⟨rfl, hH1.right, hg1⟩
/-- the pages of YardLives: of the first m those that are needed; and of those the ones from m on -/
def pgS (bs : List Bool) (m : Nat) : Nat → Bool × Bool := fun i => if i < m ∧ bs.getD i false = true then (true, i % 2 == 0) else (false, false)
def pgD (bs : List Bool) (m : Nat) : Nat → Bool × Bool := fun i => if m ≤ i ∧ i < bs.length ∧ bs.getD i false = true then (true, i % 2 == 0) else (false, false)
theorem pgS_zero (bs : List Bool) : pgS bs 0 = fun _ => (false, false) := by funext i; simp [pgS]
theorem pgS_at (bs : List Bool) (m : Nat) : (pgS bs m m).1 = false := by simp [pgS]
theorem pgS_yes {bs : List Bool} {m : Nat} (h : bs.getD m false = true) : updP (pgS bs m) m (true, m % 2 == 0) = pgS bs (m + 1) := by
  rw [List.getD_eq_getElem?_getD] at h
  funext i
  unfold updP pgS
  by_cases e : i = m
  · subst e; simp [h, Nat.not_succ_le_self]
  · by_cases e2 : i < m
    · simp [e, e2, show i < m + 1 by omega]
    · simp [e, e2, show ¬ i < m + 1 by omega]
theorem pgS_no {bs : List Bool} {m : Nat} (h : bs.getD m false = false) : pgS bs m = pgS bs (m + 1) := by
  rw [List.getD_eq_getElem?_getD] at h
  funext i
  unfold pgS
  by_cases e : i = m
  · subst e; simp [h, Nat.not_succ_le_self]
  · by_cases e2 : i < m
    · simp [e2, show i < m + 1 by omega]
    · simp [e2, show ¬ i < m + 1 by omega]
theorem pgS_all (bs : List Bool) : pgS bs bs.length = pgD bs 0 := by
  funext i; simp [pgS, pgD]
theorem pgD_end (bs : List Bool) : pgD bs bs.length = fun _ => (false, false) := by
  funext i
  unfold pgD
  rw [if_neg (by omega)]
theorem pgD_at {bs : List Bool} {m : Nat} (hm : m < bs.length) (h : bs.getD m false = true) : (pgD bs m m).1 = true := by
  unfold pgD; rw [if_pos ⟨by omega, hm, h⟩]
theorem pgD_yes {bs : List Bool} {m : Nat} (hm : m < bs.length) (h : bs.getD m false = true) : updP (pgD bs m) m (false, false) = pgD bs (m + 1) := by
  rw [List.getD_eq_getElem?_getD] at h
  funext i
  unfold updP pgD
  by_cases e : i = m
  · subst e; simp [Nat.not_succ_le_self]
  · by_cases e2 : m ≤ i
    · simp [e, e2, show m + 1 ≤ i by omega]
    · simp [e, e2, show ¬ m + 1 ≤ i by omega]
theorem pgD_no {bs : List Bool} {m : Nat} (h : bs.getD m false = false) : pgD bs m = pgD bs (m + 1) := by
  rw [List.getD_eq_getElem?_getD] at h
  funext i
  unfold pgD
  by_cases e : i = m
  · subst e; simp [h, Nat.not_succ_le_self]
  · by_cases e2 : m ≤ i
    · simp [e2, show m + 1 ≤ i by omega]
    · simp [e2, show ¬ m + 1 ≤ i by omega]
end Go.Proofs.Yteaeahhjkagbdaa
