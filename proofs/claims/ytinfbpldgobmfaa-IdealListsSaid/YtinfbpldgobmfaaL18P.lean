/-
  Chapter 18: IdealLists, the plain side.
-/
import Derived.Test.YtinfbpldgobmfaaL18D
namespace Go.Proofs.Ytinfbpldgobmfaa
open Go.RowKit
set_option linter.unusedSimpArgs false
set_option linter.unusedVariables false

theorem find_fresh {M : List (Int × List BK)} {a : Int} (h : ∀ p ∈ M, p.1 ≠ a) : M.findIdx? (fun p => p.1 == a) = none :=
  List.findIdx?_eq_none_iff.2 fun p hp => by simpa using h p hp
theorem set_new {M : List (Int × List BK)} {a : Int} {l : List BK} (h : ∀ p ∈ M, p.1 ≠ a) (hn : normB l ≠ [BK.none]) : setM M a l = M ++ [(a, normB l)] := by
  unfold setM putM
  rw [if_neg hn, find_fresh h]
def wareB (c : Bool) (d : List UInt8) : List BK := if c then [BK.none, ⟨true, false, d⟩] else [dirtB d]
/-- what is laid, the first i; which of them are dirty -/
def LM (c : Nat → Bool) (f : Nat → List UInt8) (i : Nat) : List (Int × List BK) := (List.range i).map fun j => (((7 * j : Nat) : Int), wareB (c j) (f j))
def LD (c : Nat → Bool) (i : Nat) : List Int := ((List.range i).filter fun j => !c j).map fun j => ((7 * j : Nat) : Int)
theorem LM_succ (c : Nat → Bool) (f : Nat → List UInt8) (i : Nat) : LM c f (i + 1) = LM c f i ++ [(((7 * i : Nat) : Int), wareB (c i) (f i))] := by
  unfold LM; rw [List.range_succ, List.map_append]; rfl
theorem LD_succ (c : Nat → Bool) (i : Nat) : LD c (i + 1) = LD c i ++ (if c i then [] else [((7 * i : Nat) : Int)]) := by
  unfold LD
  rw [List.range_succ, List.filter_append, List.map_append]
  cases h : c i <;> simp [h]
theorem LM_mem {c : Nat → Bool} {f : Nat → List UInt8} {i : Nat} {p : Int × List BK} : p ∈ LM c f i ↔ ∃ j, j < i ∧ p = (((7 * j : Nat) : Int), wareB (c j) (f j)) := by
  unfold LM
  rw [List.mem_map]
  constructor
  · rintro ⟨j, hj, rfl⟩; exact ⟨j, List.mem_range.1 hj, rfl⟩
  · rintro ⟨j, hj, rfl⟩; exact ⟨j, List.mem_range.2 hj, rfl⟩
theorem LD_mem {c : Nat → Bool} {i : Nat} {a : Int} : a ∈ LD c i ↔ ∃ j, j < i ∧ c j = false ∧ a = ((7 * j : Nat) : Int) := by
  unfold LD
  rw [List.mem_map]
  constructor
  · rintro ⟨j, hj, rfl⟩
    obtain ⟨h1, h2⟩ := List.mem_filter.1 hj
    exact ⟨j, List.mem_range.1 h1, by simpa using h2, rfl⟩
  · rintro ⟨j, hj, hc, rfl⟩
    exact ⟨j, List.mem_filter.2 ⟨List.mem_range.2 hj, by simp [hc]⟩, rfl⟩
theorem LM_len (c : Nat → Bool) (f : Nat → List UInt8) (i : Nat) : (LM c f i).length = i := by unfold LM; simp
theorem LD_len (c : Nat → Bool) (i : Nat) : (LD c i).length ≤ i := by
  unfold LD
  rw [List.length_map]
  have := List.length_filter_le (fun j => !c j) (List.range i)
  simpa using this
theorem LM_small {c : Nat → Bool} {f : Nat → List UInt8} {i : Nat} (hi : i ≤ 13) : (LM c f i).length ≤ 100000 ∧ ∀ p ∈ LM c f i, p.2.length ≤ 50000 := by
  refine ⟨by rw [LM_len]; omega, fun p hp => ?_⟩
  obtain ⟨j, _, rfl⟩ := LM_mem.1 hp
  unfold wareB
  dsimp only
  split <;> simp
theorem norm_ware (c : Bool) (d : List UInt8) : normB [if c then (⟨true, false, d⟩ : BK) else dirtB d] = wareB c d := by
  cases c
  · exact norm_dirty (x := dirtB d) rfl
  · exact norm_clean d
theorem ware_ne (c : Bool) (d : List UInt8) : wareB c d ≠ [BK.none] := by
  unfold wareB dirtB BK.none
  cases c <;> simp
theorem LM_set (c : Nat → Bool) (f : Nat → List UInt8) (i : Nat) : setM (LM c f i) ((7 * i : Nat) : Int) [if c i then (⟨true, false, f i⟩ : BK) else dirtB (f i)] = LM c f (i + 1) := by
  rw [set_new (fun p hp => by obtain ⟨j, hj, rfl⟩ := LM_mem.1 hp; simp; omega) (by rw [norm_ware]; exact ware_ne _ _), norm_ware, LM_succ]
theorem LM_ok (c : Nat → Bool) (f : Nat → List UInt8) : ∀ i, i ≤ 13 → MOk (LM c f i)
  | 0, _ => MOk.nil
  | i + 1, h => by
    rw [← LM_set]
    refine (LM_ok c f i (by omega)).set ⟨by omega, by omega⟩ (fun x hx => ?_) (by simp)
    rw [List.mem_singleton.1 hx]
    cases c i
    · exact dirt_ok _
    · intro h; cases h
theorem f_lay {c : Nat → Bool} {f : Nat → List UInt8} {i : Nat} (hf : (f i).length = 128) : takeF 128 (LM c f i) ⟨if c i then 2 else 1, ((7 * i : Nat) : Int), f i, 0⟩ ⟨1, 0, [], false, []⟩ = (true, LM c f (i + 1)) := by
  have h1 : mayB 128 1 (f i).length 0 = true := by simp [mayB, hf]
  have h2 : mayB 128 2 (f i).length 0 = true := by simp [mayB, hf]
  rw [takeF_eq (show (1 : Int) ≠ 3 by decide), ← LM_set]
  cases h : c i
  · unfold takeM
    simp only [h, Bool.false_eq_true, if_false]
    rw [if_neg (by decide), if_neg (by simp only [h1]; decide)]
    rfl
  · unfold takeM
    simp only [h, if_true]
    rw [if_neg (by decide), if_neg (by simp only [h2]; decide)]
    rfl
theorem LD_inc (c : Nat → Bool) (i : Nat) : (LD c i).Pairwise (· < ·) := by
  unfold LD
  rw [List.pairwise_map]
  refine ((List.pairwise_lt_range).filter _).imp fun h => ?_
  omega
theorem srt_id {l : List Int} (h : l.Pairwise (· < ·)) : srt l = l :=
  List.Perm.eq_of_pairwise (le := (· ≤ ·)) (fun x y _ _ h1 h2 => Int.le_antisymm h1 h2) (srt_sorted l) (h.imp fun h => Int.le_of_lt h) (List.mergeSort_perm l _)
theorem LM_filter (c : Nat → Bool) (f : Nat → List UInt8) (i : Nat) (P : List BK → Bool) (Q : Nat → Bool) (h : ∀ j, P (wareB (c j) (f j)) = Q j) : ((LM c f i).filter fun p => P p.2).map (·.1) = ((List.range i).filter Q).map fun j => ((7 * j : Nat) : Int) := by
  unfold LM
  rw [List.filter_map, List.map_map]
  congr 1
  refine List.filter_congr fun j _ => ?_
  exact h j
theorem ware_sure (c : Bool) (d : List UInt8) : sureB (wareB c d) = !c := by cases c <;> simp [sureB, onlyB, wareB, dirtB, BK.none]
theorem ware_may (c : Bool) (d : List UInt8) : mayD (wareB c d) = !c := by cases c <;> simp [mayD, onlyB, wareB, dirtB, BK.none]
theorem ware_some (c : Bool) (d : List UInt8) : someB (wareB c d) = true := by cases c <;> simp [someB, wareB, dirtB, BK.none]
theorem LM_sure (c : Nat → Bool) (f : Nat → List UInt8) (i : Nat) : addrsM (LM c f i) sureB = LD c i := by
  unfold addrsM
  rw [LM_filter c f i sureB (fun j => !c j) (fun j => ware_sure _ _)]
  exact srt_id (LD_inc c i)
theorem LM_may (c : Nat → Bool) (f : Nat → List UInt8) (i : Nat) : addrsM (LM c f i) mayD = LD c i := by
  unfold addrsM
  rw [LM_filter c f i mayD (fun j => !c j) (fun j => ware_may _ _)]
  exact srt_id (LD_inc c i)
theorem LM_some (c : Nat → Bool) (f : Nat → List UInt8) (i : Nat) : (addrsM (LM c f i) someB).length = i := by
  unfold addrsM srt
  rw [LM_filter c f i someB (fun _ => true) (fun j => ware_some _ _), List.filter_eq_self.2 (fun _ _ => rfl)]
  simp
theorem f_list {size : Int} {M : List (Int × List BK)} {a m : Int} {z : List Int} (h0 : 0 ≤ m) (h1 : m ≤ 64) : takeF size M ⟨6, a, [], m⟩ ⟨3, 0, [], false, z⟩ = listM M ⟨6, a, [], m⟩ z := by
  have hm : mayB size 6 0 m = true := by simp [mayB]; omega
  unfold takeF
  rw [if_neg (by simp [RV.fits, repB]), if_neg (by simp only [List.length_nil, hm]; decide), if_neg (show ¬ (3 : Int) = 1 by decide), if_neg (show ¬ (3 : Int) = 2 by decide), if_pos rfl]
theorem list_same {M : List (Int × List BK)} {o : OV} {z : List Int} (h1 : o.k = 6) (h2 : (z.length : Int) ≤ o.m) (h3 : ∀ j, j < z.length → condB o.a M z j = true) (h4 : ∀ p ∈ M, withinB o.a o.m z p.1 = true → passB z p = true ∧ keepB z p = some p) : listM M o z = (true, M) := by
  rw [list_yes h1 h2 h3 (fun p hp hw => (h4 p hp hw).1)]
  have key : ∀ (N : List (Int × List BK)), (∀ p ∈ N, p ∈ M) → (N.filterMap fun p => if withinB o.a o.m z p.1 then keepB z p else some p) = N := by
    intro N
    induction N with
    | nil => intro _; rfl
    | cons p N ih =>
      intro h
      rw [List.filterMap_cons]
      have e : (if withinB o.a o.m z p.1 then keepB z p else some p) = some p := by
        by_cases hw : withinB o.a o.m z p.1 = true
        · rw [if_pos hw]; exact (h4 p (h p (by simp)) hw).2
        · rw [if_neg hw]
      rw [e, ih fun q hq => h q (by simp [hq])]
  rw [key M fun p h => h]
theorem keep_ware {z : List Int} {a : Int} {c : Bool} {d : List UInt8} (h : z.contains a = !c) : keepB z (a, wareB c d) = some (a, wareB c d) ∧ passB z (a, wareB c d) = true := by
  have e : normB (onlyB (!c) (wareB c d)) = wareB c d := by
    cases c
    · exact norm_dirty (x := dirtB d) rfl
    · show canon [BK.none, ⟨true, false, d⟩, BK.none] = _
      have h1 := norm_clean d
      have h2 : canon [BK.none, ⟨true, false, d⟩, BK.none] = canon [⟨true, false, d⟩, BK.none] := canon_ext (fun x hx => by
          simp only [List.mem_cons, List.mem_nil_iff, or_false] at hx
          rcases hx with rfl | rfl | rfl
          · exact BK.none_ok
          · intro h; cases h
          · exact BK.none_ok) (fun x hx => by
          simp only [List.mem_cons, List.mem_nil_iff, or_false] at hx
          rcases hx with rfl | rfl
          · intro h; cases h
          · exact BK.none_ok) (fun x => by simp only [List.mem_cons]; grind)
      rw [h2]
      exact h1
  constructor
  · unfold keepB
    simp only [h, e]
    rw [if_neg (ware_ne c d)]
  · unfold passB
    simp only [h, ware_sure]
    cases c <;> rfl
theorem LM_at {c : Nat → Bool} {f : Nat → List UInt8} {i j : Nat} (hi : i ≤ 13) (hj : j < i) : atM (LM c f i) ((7 * j : Nat) : Int) = wareB (c j) (f j) :=
  at_mem (LM_ok c f i hi) (LM_mem.2 ⟨j, hj, rfl⟩)
theorem LD_cond {c : Nat → Bool} {f : Nat → List UInt8} {i : Nat} (hi : i ≤ 13) {a : Int} {z : List Int} (hz : z.Pairwise (· < ·)) (hm : ∀ x ∈ z, a ≤ x ∧ x ∈ LD c i) (j : Nat) (hj : j < z.length) : condB a (LM c f i) z j = true := by
  obtain ⟨h1, h2⟩ := hm z[j] (List.getElem_mem hj)
  obtain ⟨k, hk, hc, e⟩ := LD_mem.1 h2
  rw [cond_may hj (by omega) (by
    rcases Nat.eq_zero_or_pos j with h | h
    · exact .inl h
    · exact .inr (List.pairwise_iff_getElem.1 hz (j - 1) j (by omega) hj (by omega))), e, LM_at hi hk, ware_may, hc]
  rfl
theorem f_all {c : Nat → Bool} {f : Nat → List UInt8} {i : Nat} (hi : i ≤ 13) : takeF 128 (LM c f i) ⟨6, 0, [], 64⟩ ⟨3, 0, [], false, LD c i⟩ = (true, LM c f i) := by
  have hl := LD_len c i
  rw [f_list (by decide) (by decide)]
  refine list_same rfl (show ((LD c i).length : Int) ≤ 64 by omega) (LD_cond hi (LD_inc c i) (fun x hx => ⟨by obtain ⟨j, _, _, rfl⟩ := LD_mem.1 hx; show (0 : Int) ≤ _; omega, hx⟩)) (fun p hp _ => ?_)
  obtain ⟨j, hj, rfl⟩ := LM_mem.1 hp
  have := keep_ware (z := LD c i) (a := ((7 * j : Nat) : Int)) (c := c j) (d := f j) (by
    rw [Bool.eq_iff_iff, List.contains_iff_mem, LD_mem]
    constructor
    · rintro ⟨k, hk, hc, e⟩
      have : j = k := by omega
      subst this
      simp [hc]
    · intro h
      exact ⟨j, hj, by simpa using h, rfl⟩)
  exact ⟨this.2, this.1⟩
theorem f_extra {c : Nat → Bool} {f : Nat → List UInt8} {i : Nat} (hi : i ≤ 13) : takeF 128 (LM c f i) ⟨6, 0, [], 64⟩ ⟨3, 0, [], false, LD c i ++ [1000]⟩ = (false, LM c f i) := by
  rw [f_list (by decide) (by decide)]
  refine list_cond (j := (LD c i).length) (by simp) ?_
  have hk : lookM (LM c f i) 1000 = [] := by
    unfold lookM
    rw [List.find?_eq_none.2]
    · rfl
    · intro p hp
      obtain ⟨j, hj, rfl⟩ := LM_mem.1 hp
      simp only [beq_iff_eq]
      omega
  unfold condB
  rw [getElem!_pos _ _ (by simp)]
  simp [atM_none hk, mayD, onlyB, BK.none]
theorem f_less {c : Nat → Bool} {f : Nat → List UInt8} {i o : Nat} (hi : i ≤ 13) (ho : o < (LD c i).length) : takeF 128 (LM c f i) ⟨6, 0, [], 64⟩ ⟨3, 0, [], false, (LD c i).take o ++ (LD c i).drop (o + 1)⟩ = (false, LM c f i) := by
  have hl := LD_len c i
  rw [f_list (by decide) (by decide)]
  obtain ⟨j, hj, hc, e⟩ := LD_mem.1 (List.getElem_mem ho)
  refine list_pass (p := (((7 * j : Nat) : Int), wareB (c j) (f j))) (LM_mem.2 ⟨j, hj, rfl⟩) ?_ ?_
  · unfold withinB
    rw [if_pos (by simp only [List.length_append, List.length_take, List.length_drop]; omega)]
    simp
    omega
  · unfold passB
    rw [ware_sure, hc]
    have hni : ((7 * j : Nat) : Int) ∉ (LD c i).take o ++ (LD c i).drop (o + 1) := by
      rw [← e]
      intro hm
      have hp := List.pairwise_iff_getElem.1 (LD_inc c i)
      rcases List.mem_append.1 hm with hm | hm
      · obtain ⟨k, hk, e2⟩ := List.mem_take_iff_getElem.1 hm
        have := hp k o (by omega) ho (by omega)
        omega
      · obtain ⟨k, hk, e2⟩ := List.mem_iff_getElem.1 hm
        rw [List.getElem_drop] at e2
        have := hp o (o + 1 + k) ho (by rw [List.length_drop] at hk; omega) (by omega)
        omega
    simpa using hni
theorem f_one {c : Nat → Bool} {f : Nat → List UInt8} {i o : Nat} (hi : i ≤ 13) (ho : o < (LD c i).length) : takeF 128 (LM c f i) ⟨6, (LD c i)[o], [], 1⟩ ⟨3, 0, [], false, [(LD c i)[o]]⟩ = (true, LM c f i) := by
  rw [f_list (by decide) (by decide)]
  refine list_same rfl (by simp) (LD_cond hi (List.pairwise_singleton _ _) (fun x hx => by rw [List.mem_singleton.1 hx]; exact ⟨Int.le_refl _, List.getElem_mem ho⟩)) (fun p hp hw => ?_)
  obtain ⟨j, hj, rfl⟩ := LM_mem.1 hp
  obtain ⟨k, hk, hc, e⟩ := LD_mem.1 (List.getElem_mem ho)
  have he : ((7 * j : Nat) : Int) = (LD c i)[o] := by
    unfold withinB at hw
    rw [if_neg (by simp)] at hw
    simp only [List.getLast?_singleton, Option.getD_some, Bool.and_eq_true, decide_eq_true_eq] at hw
    obtain ⟨_, h1, h2⟩ := hw
    have h3 : (LD c i)[o] ≤ ((7 * j : Nat) : Int) := h1
    exact Int.le_antisymm (of_decide_eq_true h2) h3
  have : j = k := by omega
  subst this
  have := keep_ware (z := [(LD c i)[o]]) (a := ((7 * j : Nat) : Int)) (c := c j) (d := f j) (by rw [he, hc]; simp)
  exact ⟨this.2, this.1⟩
end Go.Proofs.Ytinfbpldgobmfaa
