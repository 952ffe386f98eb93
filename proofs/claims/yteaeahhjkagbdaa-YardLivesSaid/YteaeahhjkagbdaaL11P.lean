/-
  Chapter 11: the plain side of the walks: a yard of three blocks of which the last is worked on.
-/
import Derived.Test.YteaeahhjkagbdaaL11
namespace Go.Proofs.Yteaeahhjkagbdaa
open Go.RowKit
set_option linter.unusedSimpArgs false
set_option linter.unusedVariables false

/-- a block at rest -/
def ybF (P : Nat) : YB := ⟨1, 0, List.replicate P (false, false)⟩
/-- three blocks: the last has the pages f -/
def yW (P : Nat) (s t : Int) (f : Nat → Bool × Bool) : List YB := [ybF P, ybF P, ⟨s, t, (List.range P).map f⟩]
def updP (f : Nat → Bool × Bool) (k : Nat) (u : Bool × Bool) : Nat → Bool × Bool := fun i => if i = k then u else f i

theorem map_updP (f : Nat → Bool × Bool) (P k : Nat) (u : Bool × Bool) : ((List.range P).map f).set k u = (List.range P).map (updP f k u) := by
  apply List.ext_getElem?
  intro i
  rw [List.getElem?_set]
  simp only [List.length_map, List.length_range, List.getElem?_map, List.getElem?_range, updP]
  by_cases h : k = i
  · subst h
    by_cases hk : k < P
    · simp [hk, updP]
    · simp [hk, updP]
  · have h' : ¬ i = k := fun e => h e.symm
    by_cases hi : i < P
    · simp [h, h', hi, updP]
    · simp [h, hi, updP]
theorem yW_congr {P : Nat} {s t : Int} {f g : Nat → Bool × Bool} (h : ∀ i, i < P → f i = g i) : yW P s t f = yW P s t g := by
  unfold yW
  rw [List.map_congr_left (fun a ha => h a (List.mem_range.1 ha))]
theorem yW_at (P : Nat) (s t : Int) (f : Nat → Bool × Bool) : Yat (yW P s t f) 2 = some ⟨s, t, (List.range P).map f⟩ := by rfl
theorem yW_at1 (P : Nat) (s t : Int) (f : Nat → Bool × Bool) : Yat (yW P s t f) 1 = some (ybF P) := by rfl
theorem yW_pg (P : Nat) (s t : Int) (f : Nat → Bool × Bool) {k : Nat} (hk : k < P) : Ypg (yW P s t f) 2 (k : Int) = some (⟨s, t, (List.range P).map f⟩, f k) := by
  unfold Ypg
  rw [yW_at]
  simp only [List.length_map, List.length_range]
  rw [if_pos ⟨by omega, by omega⟩]
  simp [List.getD, hk]
theorem yW_set (P : Nat) (s t : Int) (f : Nat → Bool × Bool) (k : Nat) (u : Bool × Bool) : Ypset (yW P s t f) 2 (k : Int) ⟨s, t, (List.range P).map f⟩ u = yW P s t (updP f k u) := by
  have := map_updP f P k u
  unfold Ypset Yset
  simp only [Int.toNat_natCast]
  rw [this]
  rfl

theorem yW_open (P : Nat) : Yopen (Ynew 3 P) 2 = (yW P 2 0 (fun _ => (false, false)), 0) := by
  have e : (List.range P).map (fun _ => (false, false)) = List.replicate P (false, false) := by
    simp [List.map_const']
  unfold yW
  rw [e]
  rfl
theorem yW_next {P : Nat} {f : Nat → Bool × Bool} {k : Nat} (hk : k < P) : Ynext (yW P 2 k f) 2 = (yW P 2 ((k + 1 : Nat) : Int) f, (k : Int), 0) := by
  unfold Ynext
  rw [yW_at]
  simp only [List.length_map, List.length_range]
  rw [if_neg (by simp), if_neg (by omega)]
  rfl
theorem yW_need {P : Nat} {s t : Int} {f : Nat → Bool × Bool} {k : Nat} (d : Bool) (hk : k < P) (ht : (k : Int) < t) (hf : (f k).1 = false) : Yneed (yW P s t f) 2 (k : Int) d = (yW P s t (updP f k (true, d)), 0) := by
  unfold Yneed
  rw [yW_pg P s t f hk]
  simp only
  rw [if_neg (by simp [hf]; omega), yW_set]
theorem yW_drop {P : Nat} {s t : Int} {f : Nat → Bool × Bool} {k : Nat} (hk : k < P) (hf : (f k).1 = true) : Ydrop (yW P s t f) 2 (k : Int) = (yW P s t (updP f k (false, false)), 0) := by
  unfold Ydrop
  rw [yW_pg P s t f hk]
  simp only
  rw [if_pos hf, yW_set]
theorem yW_wash {P : Nat} {s t : Int} {f : Nat → Bool × Bool} {k : Nat} (hk : k < P) (hf : (f k).1 = true) : Ywash (yW P s t f) 2 (k : Int) = (yW P s t (updP f k (true, false)), 0) := by
  unfold Ywash
  rw [yW_pg P s t f hk]
  simp only
  rw [if_pos hf, yW_set, hf]
theorem yW_wash_no {P : Nat} {s t : Int} {f : Nat → Bool × Bool} {k : Nat} (hk : k < P) (hf : (f k).1 = false) : Ywash (yW P s t f) 2 (k : Int) = (yW P s t f, 8) := by
  unfold Ywash
  rw [yW_pg P s t f hk]
  simp only
  rw [if_neg (by simp [hf])]
theorem yW_needed (P : Nat) (s t : Int) (f : Nat → Bool × Bool) : Yneeded (yW P s t f) 2 = ((List.range P).filter fun i => (f i).1).map fun i : Nat => (i : Int) := by
  unfold Yneeded
  rw [yW_at]
  simp only [List.length_map, List.length_range, neededTo]
  congr 1
  apply List.filter_congr
  intro a ha
  have ha := List.mem_range.1 ha
  simp [List.getD, ha]
theorem yW_dirty (P : Nat) (s t : Int) (f : Nat → Bool × Bool) : Ydirty (yW P s t f) 2 = (((List.range P).filter fun i => (f i).2).length : Int) := by
  unfold Ydirty
  rw [yW_at]
  simp only [List.length_map, List.length_range, dirtyTo]
  congr 2
  apply List.filter_congr
  intro a ha
  have ha := List.mem_range.1 ha
  simp [List.getD, ha]
theorem yW_free (P : Nat) (t : Int) (f : Nat → Bool × Bool) : Yfree (yW P 2 t f) 2 = if Yneeded (yW P 2 t f) 2 = [] then (yW P 1 0 f, 0) else (yW P 2 t f, 9) := by
  unfold Yfree
  rw [yW_at]
  simp only
  by_cases h : Yneeded (yW P 2 t f) 2 = []
  · rw [if_neg (by simp [h]), if_pos h]; rfl
  · rw [if_pos (.inr h), if_neg h]
theorem yW_state1 (P : Nat) (s t : Int) (f : Nat → Bool × Bool) : Ystate (yW P s t f) 1 = 1 := by rfl
theorem yW_dirty1 (P : Nat) (s t : Int) (f : Nat → Bool × Bool) : Ydirty (yW P s t f) 1 = 0 := by
  unfold Ydirty
  rw [yW_at1]
  simp only [ybF, dirtyTo, List.length_replicate]
  have : ((List.range P).filter fun i => ((List.replicate P (false, false)).getD i (false, false)).2) = [] := by
    rw [List.filter_eq_nil_iff]
    intro a ha
    have ha := List.mem_range.1 ha
    simp [List.getD, ha]
  rw [this]; rfl

/-- the pages of YardWashes: k rounds of the first loop, k rounds of the second -/
def pgN (D : Nat → Bool) (k : Nat) : Nat → Bool × Bool := fun i => if i < k then (true, D i) else (false, false)
def pgL (D W R : Nat → Bool) (k : Nat) : Nat → Bool × Bool := fun i => if i < k then (if R i then (false, false) else (true, D i && !W i)) else (true, D i)
theorem pgN_zero (D : Nat → Bool) : pgN D 0 = fun _ => (false, false) := by funext i; simp [pgN]
theorem pgN_at (D : Nat → Bool) (k : Nat) : (pgN D k k).1 = false := by simp [pgN]
theorem pgN_succ (D : Nat → Bool) (k : Nat) : updP (pgN D k) k (true, D k) = pgN D (k + 1) := by
  funext i
  unfold updP pgN
  by_cases h : i = k
  · subst h; simp
  · by_cases h2 : i < k
    · simp [h, h2, show i < k + 1 by omega]
    · simp [h, h2, show ¬ i < k + 1 by omega]
theorem pgN_all {P : Nat} {s t : Int} (D W R : Nat → Bool) : yW P s t (pgN D P) = yW P s t (pgL D W R 0) := yW_congr fun i hi => by simp [pgN, pgL, hi]
theorem pgL_at (D W R : Nat → Bool) (k : Nat) : pgL D W R k k = (true, D k) := by simp [pgL]
/-- a page that is dropped -/
theorem pgL_drop (D W R : Nat → Bool) (k : Nat) (hr : R k = true) : updP (pgL D W R k) k (false, false) = pgL D W R (k + 1) := by
  funext i
  unfold updP pgL
  by_cases h : i = k
  · subst h; simp [hr]
  · by_cases h2 : i < k
    · simp [h, h2, show i < k + 1 by omega]
    · simp [h, h2, show ¬ i < k + 1 by omega]
theorem pgL_drop_at (D W R : Nat → Bool) (k : Nat) (hr : R k = true) : (pgL D W R (k + 1) k).1 = false := by simp [pgL, hr]
/-- a page that is washed -/
theorem pgL_wash (D W R : Nat → Bool) (k : Nat) (hr : R k = false) (hw : W k = true) : updP (pgL D W R k) k (true, false) = pgL D W R (k + 1) := by
  funext i
  unfold updP pgL
  by_cases h : i = k
  · subst h; simp [hr, hw]
  · by_cases h2 : i < k
    · simp [h, h2, show i < k + 1 by omega]
    · simp [h, h2, show ¬ i < k + 1 by omega]
/-- a page that is left -/
theorem pgL_stay (D W R : Nat → Bool) (k : Nat) (hr : R k = false) (hw : W k = false) : pgL D W R k = pgL D W R (k + 1) := by
  funext i
  unfold pgL
  by_cases h : i = k
  · subst h; simp [hr, hw]
  · by_cases h2 : i < k
    · simp [h, h2, show i < k + 1 by omega]
    · simp [h2, show ¬ i < k + 1 by omega]
/-- how many are left, how many dirty -/
def leftTo (R : Nat → Bool) (k : Nat) : Nat := ((List.range k).filter fun i => !R i).length
def manyTo (D W R : Nat → Bool) (k : Nat) : Nat := ((List.range k).filter fun i => !R i && (D i && !W i)).length
theorem leftTo_succ (R : Nat → Bool) (k : Nat) : leftTo R (k + 1) = if R k then leftTo R k else leftTo R k + 1 := by
  unfold leftTo; rw [filter_snoc]; cases R k <;> simp
theorem manyTo_succ (D W R : Nat → Bool) (k : Nat) : manyTo D W R (k + 1) = if (!R k && (D k && !W k)) then manyTo D W R k + 1 else manyTo D W R k := by
  unfold manyTo; rw [filter_snoc]; cases (!R k && (D k && !W k)) <;> simp
theorem yW_left (P : Nat) (s t : Int) (D W R : Nat → Bool) : Yneeded (yW P s t (pgL D W R P)) 2 = ((List.range P).filter fun i => !R i).map fun i : Nat => (i : Int) := by
  rw [yW_needed]
  congr 1
  apply List.filter_congr
  intro a ha
  have ha := List.mem_range.1 ha
  simp only [pgL, ha, if_true]
  cases R a <;> simp
theorem yW_many (P : Nat) (s t : Int) (D W R : Nat → Bool) : Ydirty (yW P s t (pgL D W R P)) 2 = (manyTo D W R P : Int) := by
  rw [yW_dirty]
  unfold manyTo
  congr 2
  apply List.filter_congr
  intro a ha
  have ha := List.mem_range.1 ha
  simp only [pgL, ha, if_true]
  cases R a <;> simp
end Go.Proofs.Yteaeahhjkagbdaa
