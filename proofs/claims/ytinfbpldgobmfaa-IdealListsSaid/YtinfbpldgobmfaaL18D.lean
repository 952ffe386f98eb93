/-
  Chapter 18: dirty blocks at one address, the plain side.
-/
import Derived.Test.YtinfbpldgobmfaaL18
import Derived.Test.YtinfbpldgobmfaaIdU
namespace Go.Proofs.Ytinfbpldgobmfaa
open Go.RowKit
set_option linter.unusedSimpArgs false
set_option linter.unusedVariables false

def dirtB (d : List UInt8) : BK := ⟨true, true, d⟩
def dirtL (ds : List (List UInt8)) : List BK := ds.map dirtB
theorem dirt_ok (d : List UInt8) : (dirtB d).Ok := fun h => by cases h
theorem dirtL_ok {ds : List (List UInt8)} : ∀ x ∈ dirtL ds, x.Ok := fun x hx => by obtain ⟨d, _, rfl⟩ := List.mem_map.1 hx; exact dirt_ok d
theorem dirt_inj {d e : List UInt8} : dirtB d = dirtB e ↔ d = e := by unfold dirtB; simp
theorem dirtL_mem {ds : List (List UInt8)} {d : List UInt8} : dirtB d ∈ dirtL ds ↔ d ∈ ds := by
  unfold dirtL
  rw [List.mem_map]
  constructor
  · rintro ⟨e, he, h⟩; rw [← dirt_inj.1 h]; exact he
  · exact fun h => ⟨d, h, rfl⟩
theorem canon_ext {l l' : List BK} (hl : ∀ x ∈ l, x.Ok) (hl' : ∀ x ∈ l', x.Ok) (h : ∀ x, x ∈ l ↔ x ∈ l') : canon l = canon l' :=
  binc_ext (canon_inc hl) (canon_inc hl') fun e => by rw [mem_canon, mem_canon, h]
theorem clean_no {l : List BK} (h : ∀ x ∈ l, x.dirty = true) : hasClean l = false := by
  unfold hasClean
  rw [List.any_eq_false]
  intro x hx
  simp [h x hx]
theorem norm_dirts {l : List BK} (h : ∀ x ∈ l, x.dirty = true) : normB l = canon l := by unfold normB; rw [clean_no h]; rfl
theorem canon_some {l : List BK} (h : ∀ x ∈ l, x.some = true) : canon l ≠ [BK.none] := by
  intro e
  have h1 : BK.none ∈ canon l := by rw [e]; simp
  have := h _ (mem_canon.1 h1)
  cases this
theorem canon_ne {l : List BK} (h : l ≠ []) : canon l ≠ [] := by
  intro e
  obtain ⟨x, hx⟩ := List.exists_mem_of_ne_nil l h
  have := mem_canon.2 hx
  rw [e] at this
  cases this
/-- what stands at one address alone -/
def oneM (a : Int) (ds : List (List UInt8)) : List (Int × List BK) := [(a, canon (dirtL ds))]
theorem set_dirts {a : Int} {l0 : List BK} {l : List BK} {ds : List (List UInt8)} (h : ∀ x, x ∈ l ↔ x ∈ dirtL ds) : setM [(a, l0)] a l = oneM a ds := by
  have h1 : ∀ x ∈ l, x.dirty = true := fun x hx => by obtain ⟨d, _, rfl⟩ := List.mem_map.1 ((h x).1 hx); rfl
  have h2 : ∀ x ∈ l, x.some = true := fun x hx => by obtain ⟨d, _, rfl⟩ := List.mem_map.1 ((h x).1 hx); rfl
  unfold setM
  rw [norm_dirts h1, if_neg (canon_some h2), canon_ext (fun x hx => dirtL_ok x ((h x).1 hx)) dirtL_ok h]
  simp [putM, List.findIdx?_cons, oneM]
theorem set_first {a : Int} {d : List UInt8} : setM [] a [dirtB d] = oneM a [d] := set_one rfl rfl
theorem at_dirts {a : Int} {ds : List (List UInt8)} (h : ds ≠ []) : atM (oneM a ds) a = canon (dirtL ds) := at_one (canon_ne (by simpa [dirtL] using h))
theorem mok_dirts {a : Int} {ds : List (List UInt8)} (ha : U64 a) (h : ds ≠ []) : MOk (oneM a ds) := by
  have h1 := MOk.set (mok_one (x := dirtB []) ha rfl rfl) ha (l := dirtL ds) dirtL_ok (by simpa [dirtL] using h)
  rw [set_dirts (fun x => Iff.rfl)] at h1
  exact h1
theorem insB_len {x : BK} {l : List BK} : (insB x l).length ≤ l.length + 1 := by
  induction l with
  | nil => simp [insB]
  | cons y l ih =>
    unfold insB
    split
    · simp
    · split
      · simp
      · simp only [List.length_cons]; omega
theorem canon_len (l : List BK) : (canon l).length ≤ l.length := by
  unfold canon
  induction l with
  | nil => simp
  | cons x l ih =>
    rw [List.foldr_cons, List.length_cons]
    have := insB_len (x := x) (l := List.foldr insB [] l)
    omega
theorem small_dirts {a : Int} {ds : List (List UInt8)} (h : ds.length ≤ 50000) : (oneM a ds).length ≤ 100000 ∧ ∀ p ∈ oneM a ds, p.2.length ≤ 50000 := by
  refine ⟨by simp [oneM], fun p hp => ?_⟩
  rw [List.mem_singleton.1 hp]
  have := canon_len (dirtL ds)
  have h2 : (dirtL ds).length = ds.length := by simp [dirtL]
  show (canon (dirtL ds)).length ≤ 50000
  omega
theorem any_dirts {ds : List (List UInt8)} {d : List UInt8} : ((canon (dirtL ds)).any fun x => dirtB d == x) = decide (d ∈ ds) := by
  rw [Bool.eq_iff_iff, List.any_eq_true]
  constructor
  · rintro ⟨x, hx, e⟩
    rw [mem_canon] at hx
    rw [← eq_of_beq e] at hx
    simpa using dirtL_mem.1 hx
  · intro h
    exact ⟨dirtB d, mem_canon.2 (dirtL_mem.2 (by simpa using h)), by simp⟩
theorem any_none {ds : List (List UInt8)} {x : BK} (hx : x.dirty = false) : ((canon (dirtL ds)).any fun y => x == y) = false := by
  rw [List.any_eq_false]
  intro y hy h
  obtain ⟨d, _, rfl⟩ := List.mem_map.1 (mem_canon.1 hy)
  rw [eq_of_beq h] at hx
  cases hx
/-! ### what is told -/
theorem f_first {size : Int} {a : Int} {d : List UInt8} (hd : (d.length : Int) = size) : takeF size [] ⟨1, a, d, 0⟩ ⟨1, 0, [], false, []⟩ = (true, oneM a [d]) := by
  rw [takeF_eq (by decide), take_dirty hd]
  exact congrArg (Prod.mk true) (set_first (a := a) (d := d))
theorem f_dark {size : Int} {a : Int} {ds : List (List UInt8)} {d : List UInt8} (hd : (d.length : Int) = size) (h0 : ds ≠ []) : takeF size (oneM a ds) ⟨1, a, d, 0⟩ ⟨4, 4, [], false, []⟩ = (true, oneM a (ds ++ [d])) := by
  rw [takeF_eq (by decide), take_dark hd, at_dirts h0]
  refine congrArg (Prod.mk true) (set_dirts fun x => ?_)
  rw [List.mem_append, mem_canon, List.mem_map]
  unfold dirtL
  rw [List.map_append, List.mem_append, List.map_singleton, List.mem_singleton]
  constructor
  · rintro (h | ⟨_, _, h⟩)
    · exact .inl h
    · exact .inr h.symm
  · rintro (h | h)
    · exact .inl h
    · obtain ⟨y, hy⟩ := List.exists_mem_of_ne_nil _ (canon_ne (l := dirtL ds) (by simpa [dirtL] using h0))
      exact .inr ⟨y, hy, h.symm⟩
theorem f_got {size : Int} {a : Int} {ds : List (List UInt8)} {d : List UInt8} (h0 : ds ≠ []) (hd : d ∈ ds) : takeF size (oneM a ds) ⟨3, a, [], 0⟩ ⟨2, 0, d, true, []⟩ = (true, oneM a [d]) := by
  rw [takeF_eq (show (2 : Int) ≠ 3 by decide), take_got, at_dirts h0, if_pos (by rw [show (⟨true, true, d⟩ : BK) = dirtB d from rfl, any_dirts]; simpa using hd)]
  exact congrArg (Prod.mk true) (set_dirts (l := [dirtB d]) fun x => by simp [dirtL])
theorem f_other {size : Int} {a : Int} {ds : List (List UInt8)} {d : List UInt8} (h0 : ds ≠ []) (hd : d ∉ ds) : takeF size (oneM a ds) ⟨3, a, [], 0⟩ ⟨2, 0, d, true, []⟩ = (false, oneM a ds) := by
  rw [takeF_eq (show (2 : Int) ≠ 3 by decide), take_got, at_dirts h0, if_neg (by rw [show (⟨true, true, d⟩ : BK) = dirtB d from rfl, any_dirts]; simpa using hd)]
theorem f_clean {size : Int} {a : Int} {ds : List (List UInt8)} {d : List UInt8} (h0 : ds ≠ []) : takeF size (oneM a ds) ⟨3, a, [], 0⟩ ⟨2, 0, d, false, []⟩ = (false, oneM a ds) := by
  rw [takeF_eq (show (2 : Int) ≠ 3 by decide), take_got, at_dirts h0, if_neg (by rw [any_none rfl]; decide)]
theorem f_none {size : Int} {a : Int} {ds : List (List UInt8)} (h0 : ds ≠ []) : takeF size (oneM a ds) ⟨3, a, [], 0⟩ ⟨4, 8, [], false, []⟩ = (false, oneM a ds) := by
  rw [takeF_eq (show (4 : Int) ≠ 3 by decide), take_none, at_dirts h0, if_neg (by rw [any_none rfl]; decide)]
theorem f_empty {size : Int} {a : Int} {d : List UInt8} {y : Bool} : takeF size [] ⟨3, a, [], 0⟩ ⟨2, 0, d, y, []⟩ = (false, []) := by
  rw [takeF_eq (show (2 : Int) ≠ 3 by decide), take_got, atM_none (M := []) rfl, if_neg (by simp; exact fun h => by cases h)]
/-- of another address -/
theorem f_away {size : Int} {a b : Int} {ds : List (List UInt8)} {d : List UInt8} {y : Bool} (h : a ≠ b) : takeF size (oneM a ds) ⟨3, b, [], 0⟩ ⟨2, 0, d, y, []⟩ = (false, oneM a ds) := by
  have h1 : lookM (oneM a ds) b = [] := by unfold lookM oneM; simp [h]
  rw [takeF_eq (show (2 : Int) ≠ 3 by decide), take_got, atM_none h1, if_neg (by simp; exact fun h => by cases h)]
/-- a clean one -/
def cleanM (a : Int) (d : List UInt8) : List (Int × List BK) := [(a, [BK.none, ⟨true, false, d⟩])]
theorem norm_clean (d : List UInt8) : normB [⟨true, false, d⟩] = [BK.none, ⟨true, false, d⟩] := by
  unfold normB
  rw [if_pos (by simp [hasClean])]
  show insB ⟨true, false, d⟩ (insB BK.none []) = _
  have h1 : ¬ bless ⟨true, false, d⟩ BK.none := by unfold bless rankB BK.none; simp
  have h2 : ¬ ((⟨true, false, d⟩ : BK) = BK.none) := by intro h; cases h
  show (if bless ⟨true, false, d⟩ BK.none then _ else _) = _
  rw [if_neg h1, if_neg h2]
  rfl
theorem f_wash {size : Int} {a : Int} {d : List UInt8} : takeF size (oneM a [d]) ⟨5, a, [], 0⟩ ⟨1, 0, [], false, []⟩ = (true, cleanM a d) := by
  rw [takeF_eq (show (1 : Int) ≠ 3 by decide), take_clean]
  have h1 : atM (oneM a [d]) a = [dirtB d] := at_dirts (by simp)
  have h2 : nextB ⟨5, a, [], 0⟩ [dirtB d] = [⟨true, false, d⟩] := rfl
  have h3 : setM (oneM a [d]) a [⟨true, false, d⟩] = cleanM a d := by
    unfold setM
    rw [norm_clean, if_neg (by intro h; injection h with _ h; cases h)]
    simp [putM, List.findIdx?_cons, oneM, cleanM]
  unfold doneM
  rw [if_neg (by simp), if_pos rfl, h1]
  change (if [(⟨true, false, d⟩ : BK)] = [] then _ else (true, setM (oneM a [d]) a [⟨true, false, d⟩])) = _
  rw [h3, if_neg (by simp)]
theorem at_clean {a : Int} {d : List UInt8} : atM (cleanM a d) a = [BK.none, ⟨true, false, d⟩] := at_one (by simp)
theorem mok_clean {a : Int} {d : List UInt8} (ha : U64 a) : MOk (cleanM a d) := by
  have h1 := MOk.set (mok_one (x := dirtB []) ha rfl rfl) ha (l := [⟨true, false, d⟩]) (fun y hy => by rw [List.mem_singleton.1 hy]; intro h; cases h) (by simp)
  have h3 : setM [(a, [dirtB []])] a [⟨true, false, d⟩] = cleanM a d := by
    unfold setM
    rw [norm_clean, if_neg (by intro h; injection h with _ h; cases h)]
    simp [putM, List.findIdx?_cons, cleanM]
  rw [h3] at h1
  exact h1
theorem f_gone {size : Int} {a : Int} {d : List UInt8} : takeF size (cleanM a d) ⟨3, a, [], 0⟩ ⟨4, 8, [], false, []⟩ = (true, []) := by
  rw [takeF_eq (show (4 : Int) ≠ 3 by decide), take_none, at_clean, if_pos (by simp)]
  have h3 : setM (cleanM a d) a [BK.none] = [] := by
    unfold setM
    rw [show normB [BK.none] = [BK.none] from rfl, if_pos rfl]
    simp [delM, cleanM, List.findIdx?_cons]
  rw [h3]
end Go.Proofs.Ytinfbpldgobmfaa
