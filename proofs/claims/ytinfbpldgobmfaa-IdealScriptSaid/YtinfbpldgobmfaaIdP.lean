/-
  Package ideal: listed, the plain side: what is made of the map.
-/
import Derived.Test.YtinfbpldgobmfaaIdL
namespace Go.Proofs.Ytinfbpldgobmfaa
open Go.RowKit
set_option linter.unusedSimpArgs false
set_option linter.unusedVariables false

/-- an address that was gone through -/
def keepB (z : List Int) (p : Int × List BK) : Option (Int × List BK) :=
  if normB (onlyB (z.contains p.1) p.2) = [BK.none] then none else some (p.1, normB (onlyB (z.contains p.1) p.2))
def spanM (M : List (Int × List BK)) (J z : List Int) : List (Int × List BK) := M.filterMap fun p => if J.contains p.1 then keepB z p else some p
theorem keepB_key {z : List Int} {p q : Int × List BK} (h : keepB z p = some q) : q.1 = p.1 := by
  unfold keepB at h
  split at h
  · cases h
  · injection h with h; rw [← h]
theorem spanM_append (A B : List (Int × List BK)) (J z : List Int) : spanM (A ++ B) J z = spanM A J z ++ spanM B J z := by unfold spanM; rw [List.filterMap_append]
theorem spanM_keys {M : List (Int × List BK)} {J z : List Int} {q : Int × List BK} (h : q ∈ spanM M J z) : q.1 ∈ M.map (·.1) := by
  obtain ⟨p, hp, hq⟩ := List.mem_filterMap.1 h
  refine List.mem_map.2 ⟨p, hp, ?_⟩
  split at hq
  · exact (keepB_key hq).symm
  · injection hq with hq; rw [hq]
theorem spanM_congr {M : List (Int × List BK)} {J J' z : List Int} (h : ∀ p ∈ M, J.contains p.1 = J'.contains p.1) : spanM M J z = spanM M J' z := by
  unfold spanM
  induction M with
  | nil => rfl
  | cons p M ih =>
    rw [List.filterMap_cons, List.filterMap_cons, h p (by simp), ih fun q hq => h q (by simp [hq])]
theorem find_split {A B : List (Int × List BK)} {a : Int} {x : List BK} (hA : ∀ p ∈ A, p.1 ≠ a) : (A ++ (a, x) :: B).findIdx? (fun p => p.1 == a) = some A.length := by
  rw [List.findIdx?_append, List.findIdx?_eq_none_iff.2 fun p hp => by simpa using hA p hp, List.findIdx?_cons]
  simp
theorem set_split {A B : List (Int × List BK)} {a : Int} {x l : List BK} (hA : ∀ p ∈ A, p.1 ≠ a) : setM (A ++ (a, x) :: B) a l = A ++ ((if normB l = [BK.none] then [] else [(a, normB l)]) ++ B) := by
  unfold setM putM delM
  rw [find_split hA]
  split
  · simp [List.eraseIdx_append_of_length_le]
  · simp [List.set_append_right]
theorem at_split {A B : List (Int × List BK)} {a : Int} {x : List BK} (hA : ∀ p ∈ A, p.1 ≠ a) (hx : x ≠ []) : atM (A ++ (a, x) :: B) a = x := by
  unfold atM lookM
  have h : (A ++ (a, x) :: B).find? (fun p => p.1 == a) = some (a, x) := by
    rw [List.find?_append, List.find?_eq_none.2 fun p hp => by simpa using hA p hp]
    simp
  rw [h]
  simp [hx]
theorem at_mem {M : List (Int × List BK)} (hM : MOk M) {p : Int × List BK} (hp : p ∈ M) : atM M p.1 = p.2 := by
  obtain ⟨A, B, rfl⟩ := List.append_of_mem hp
  have hn := hM.nodup
  rw [List.map_append, List.map_cons, List.nodup_append] at hn
  exact at_split (fun q hq e => hn.2.2 q.1 (List.mem_map.2 ⟨q, hq, rfl⟩) p.1 (by simp) e) (hM.ok p hp).2.2.1
/-- what stands at an address that is still to be gone through -/
theorem span_at {M : List (Int × List BK)} (hM : MOk M) {J z : List Int} {p : Int × List BK} (hp : p ∈ M) (hJ : p.1 ∉ J) : atM (spanM M J z) p.1 = p.2 := by
  obtain ⟨A, B, rfl⟩ := List.append_of_mem hp
  have hn := hM.nodup
  rw [List.map_append, List.map_cons, List.nodup_append] at hn
  have hA : ∀ q ∈ spanM A J z, q.1 ≠ p.1 := fun q hq e => hn.2.2 q.1 (spanM_keys hq) p.1 (by simp) e
  have e : spanM (A ++ p :: B) J z = spanM A J z ++ (p.1, p.2) :: spanM B J z := by
    rw [spanM_append]
    congr 1
    unfold spanM
    rw [List.filterMap_cons, if_neg (by simpa using hJ)]
  rw [e]
  exact at_split hA (hM.ok p hp).2.2.1
theorem span_step {M : List (Int × List BK)} (hM : MOk M) {J z : List Int} {p : Int × List BK} (hp : p ∈ M) (hJ : p.1 ∉ J) : setM (spanM M J z) p.1 (onlyB (z.contains p.1) (atM (spanM M J z) p.1)) = spanM M (J ++ [p.1]) z := by
  rw [span_at hM hp hJ]
  obtain ⟨A, B, rfl⟩ := List.append_of_mem hp
  have hn := hM.nodup
  rw [List.map_append, List.map_cons, List.nodup_append, List.nodup_cons] at hn
  have hA0 : ∀ q ∈ A, q.1 ≠ p.1 := fun q hq e => hn.2.2 q.1 (List.mem_map.2 ⟨q, hq, rfl⟩) p.1 (by simp) e
  have hB0 : ∀ q ∈ B, q.1 ≠ p.1 := fun q hq e => hn.2.1.1 (List.mem_map.2 ⟨q, hq, e⟩)
  have hA : ∀ q ∈ spanM A J z, q.1 ≠ p.1 := fun q hq e => hn.2.2 q.1 (spanM_keys hq) p.1 (by simp) e
  have e : spanM (A ++ p :: B) J z = spanM A J z ++ (p.1, p.2) :: spanM B J z := by
    rw [spanM_append]
    congr 1
    unfold spanM
    rw [List.filterMap_cons, if_neg (by simpa using hJ)]
  have e2 : spanM (A ++ p :: B) (J ++ [p.1]) z = spanM A J z ++ ((if normB (onlyB (z.contains p.1) p.2) = [BK.none] then [] else [(p.1, normB (onlyB (z.contains p.1) p.2))]) ++ spanM B J z) := by
    rw [spanM_append, spanM_congr (M := A) (J' := J) fun q hq => by simp [hA0 q hq]]
    congr 1
    have e3 : spanM B (J ++ [p.1]) z = spanM B J z := spanM_congr fun q hq => by simp [hB0 q hq]
    unfold spanM at e3 ⊢
    rw [List.filterMap_cons, if_pos (by simp), e3]
    by_cases hk : normB (onlyB (z.contains p.1) p.2) = [BK.none]
    · rw [show keepB z p = none from if_pos hk, if_pos hk]; rfl
    · rw [show keepB z p = some (p.1, normB (onlyB (z.contains p.1) p.2)) from if_neg hk, if_neg hk]; rfl
  rw [e, e2, set_split hA]
theorem MOk.span {M : List (Int × List BK)} (hM : MOk M) : ∀ {J z : List Int}, J.Nodup → (∀ a ∈ J, ∃ p ∈ M, p.1 = a ∧ onlyB (z.contains a) p.2 ≠ []) → MOk (spanM M J z) := by
  intro J z
  induction h : J.length generalizing J with
  | zero =>
    intro _ _
    rw [List.eq_nil_of_length_eq_zero h]
    have : spanM M [] z = M := by unfold spanM; simp
    rw [this]; exact hM
  | succ n ih =>
    intro hn hJ
    obtain ⟨J', a, rfl⟩ : ∃ J' a, J = J' ++ [a] := by
      rcases List.eq_nil_or_concat J with e | ⟨J', a, e⟩
      · simp [e] at h
      · exact ⟨J', a, by simpa using e⟩
    obtain ⟨p, hp, rfl, h0⟩ := hJ a (by simp)
    obtain ⟨h1, h2, h3⟩ := List.nodup_append.1 hn
    have hni : p.1 ∉ J' := fun hm => h3 _ hm p.1 (by simp) rfl
    have hm := ih (J := J') (by simpa using h) h1 (fun b hb => hJ b (by simp [hb]))
    rw [← span_step hM hp hni]
    refine hm.set (hM.u64 p hp) (fun x hx => ?_) (by rw [span_at hM hp hni]; exact h0)
    rw [span_at hM hp hni] at hx
    exact (hM.ok p hp).2.1 x (List.mem_filter.1 hx).1
theorem span_at_len {M : List (Int × List BK)} {J z : List Int} {n : Nat} (hM : MOk M) (hl : ∀ p ∈ M, p.2.length ≤ n) {p : Int × List BK} (hp : p ∈ M) (hJ : p.1 ∉ J) : (atM (spanM M J z) p.1).length ≤ n := by rw [span_at hM hp hJ]; exact hl p hp

/-! ### what may be told -/
def withinB (a0 m : Int) (z : List Int) (a : Int) : Bool :=
  if (z.length : Int) < m then decide (a0 ≤ a) else decide (0 < z.length) && (decide (a0 ≤ a) && decide (a ≤ z.getLast?.getD 0))
def condB (a0 : Int) (M : List (Int × List BK)) (z : List Int) (j : Nat) : Bool :=
  decide (a0 ≤ z[j]!) && ((decide (j = 0) || decide (z[j - 1]! < z[j]!)) && mayD (atM M z[j]!))
def passB (z : List Int) (p : Int × List BK) : Bool := z.contains p.1 || !sureB p.2
def askB (M : List (Int × List BK)) (o : OV) (z : List Int) : Bool :=
  (decide (o.k = 6) && decide ((z.length : Int) ≤ o.m)) && ((List.range z.length).all (condB o.a M z) && M.all fun p => !withinB o.a o.m z p.1 || passB z p)
def listM (M : List (Int × List BK)) (o : OV) (z : List Int) : Bool × List (Int × List BK) :=
  if askB M o z then (true, M.filterMap fun p => if withinB o.a o.m z p.1 then keepB z p else some p) else (false, M)
theorem list_no6 {M : List (Int × List BK)} {o : OV} {z : List Int} (h : o.k ≠ 6) : listM M o z = (false, M) := by unfold listM askB; rw [if_neg (by simp [h])]
theorem list_many {M : List (Int × List BK)} {o : OV} {z : List Int} (h : o.m < z.length) : listM M o z = (false, M) := by unfold listM askB; rw [if_neg (by simp; omega)]
theorem list_cond {M : List (Int × List BK)} {o : OV} {z : List Int} {j : Nat} (hj : j < z.length) (h : condB o.a M z j = false) : listM M o z = (false, M) := by
  unfold listM askB
  rw [if_neg]
  intro e
  simp only [Bool.and_eq_true, List.all_eq_true, List.mem_range] at e
  rw [e.2.1 j hj] at h
  cases h
theorem list_pass {M : List (Int × List BK)} {o : OV} {z : List Int} {p : Int × List BK} (hp : p ∈ M) (h1 : withinB o.a o.m z p.1 = true) (h : passB z p = false) : listM M o z = (false, M) := by
  unfold listM askB
  rw [if_neg]
  intro e
  simp only [Bool.and_eq_true, List.all_eq_true, List.mem_range] at e
  have := e.2.2 p hp
  rw [h1, h] at this
  cases this
theorem list_yes {M : List (Int × List BK)} {o : OV} {z : List Int} (h1 : o.k = 6) (h2 : (z.length : Int) ≤ o.m) (h3 : ∀ j, j < z.length → condB o.a M z j = true) (h4 : ∀ p ∈ M, withinB o.a o.m z p.1 = true → passB z p = true) :
    listM M o z = (true, M.filterMap fun p => if withinB o.a o.m z p.1 then keepB z p else some p) := by
  unfold listM askB
  rw [if_pos]
  simp only [Bool.and_eq_true, List.all_eq_true, List.mem_range, decide_eq_true_eq]
  refine ⟨⟨h1, h2⟩, h3, fun p hp => ?_⟩
  cases hw : withinB o.a o.m z p.1 with
  | false => rfl
  | true => simp [h4 p hp hw]
/-- each that is gone through has something left -/
theorem pass_left {M : List (Int × List BK)} (hM : MOk M) {a0 : Int} {z : List Int} (h3 : ∀ j, j < z.length → condB a0 M z j = true) {p : Int × List BK} (hp : p ∈ M) (h : passB z p = true) : onlyB (z.contains p.1) p.2 ≠ [] := by
  cases hc : z.contains p.1 with
  | true =>
    obtain ⟨j, hj, e⟩ := List.mem_iff_getElem.1 (List.contains_iff_mem.1 hc)
    have h4 := h3 j hj
    unfold condB at h4
    simp only [Bool.and_eq_true, getElem!_pos z j hj, e, at_mem hM hp] at h4
    have h5 := h4.2.2
    unfold mayD at h5
    intro e2
    rw [e2] at h5
    simp at h5
  | false =>
    unfold passB at h
    rw [hc] at h
    intro e2
    unfold sureB at h
    rw [e2] at h
    simp at h
/-- the addresses that are gone through, in some order -/
def outW (M : List (Int × List BK)) (P : Int → Bool) (I : List Nat) : List Int := I.filterMap fun i => (M[i]?).bind fun p => if P p.1 then some p.1 else none
theorem outW_snoc {M : List (Int × List BK)} {P : Int → Bool} {I : List Nat} {i : Nat} (h : i < M.length) : outW M P (I ++ [i]) = outW M P I ++ (if P M[i].1 then [M[i].1] else []) := by
  unfold outW
  rw [List.filterMap_append, List.filterMap_cons, List.getElem?_eq_getElem h]
  by_cases hp : P M[i].1 = true <;> simp [hp]
theorem outW_len {M : List (Int × List BK)} {P : Int → Bool} {I : List Nat} : (outW M P I).length ≤ I.length := List.length_filterMap_le _ _
theorem outW_mem {M : List (Int × List BK)} {P : Int → Bool} {I : List Nat} {a : Int} : a ∈ outW M P I ↔ ∃ i ∈ I, ∃ h : i < M.length, M[i].1 = a ∧ P a = true := by
  unfold outW
  rw [List.mem_filterMap]
  constructor
  · rintro ⟨i, hi, h⟩
    cases hm : M[i]? with
    | none => rw [hm] at h; cases h
    | some p =>
      rw [hm] at h
      obtain ⟨hl, e⟩ := List.getElem?_eq_some_iff.1 hm
      simp only [Option.bind_some] at h
      split at h
      · rename_i hp
        injection h with h
        exact ⟨i, hi, hl, by rw [e]; exact h, by rw [← h]; exact hp⟩
      · cases h
  · rintro ⟨i, hi, hl, e, hp⟩
    refine ⟨i, hi, ?_⟩
    rw [List.getElem?_eq_getElem hl]
    simp [e, hp]
theorem outW_nodup {M : List (Int × List BK)} (hn : (M.map (·.1)).Nodup) {P : Int → Bool} {I : List Nat} (hI : I.Nodup) : (outW M P I).Nodup := by
  induction I with
  | nil => exact List.Pairwise.nil
  | cons i I ih =>
    obtain ⟨h1, h2⟩ := List.nodup_cons.1 hI
    have h3 := ih h2
    unfold outW at h3 ⊢
    rw [List.filterMap_cons]
    cases hm : (M[i]?).bind fun p => if P p.1 then some p.1 else none with
    | none => exact h3
    | some a =>
      refine List.nodup_cons.2 ⟨fun h => ?_, h3⟩
      obtain ⟨j, hj, hl, e, hp⟩ := outW_mem.1 (show a ∈ outW M P I from h)
      have h4 : a ∈ outW M P [i] := by unfold outW; rw [List.filterMap_cons, hm]; simp
      obtain ⟨k, hk, hkl, e2, _⟩ := outW_mem.1 h4
      rw [List.mem_singleton] at hk
      subst hk
      have : k = j := (List.getElem_inj hn).1 (show (M.map (·.1))[k]'(by simpa using hkl) = (M.map (·.1))[j]'(by simpa using hl) by simp [e, e2])
      exact h1 (this ▸ hj)
theorem outW_all {M : List (Int × List BK)} {P : Int → Bool} {I : List Nat} (h2 : ∀ i, i < M.length → i ∈ I) {z : List Int} : spanM M (outW M P I) z = M.filterMap fun p => if P p.1 then keepB z p else some p := by
  unfold spanM
  have key : ∀ (N : List (Int × List BK)), (∀ p ∈ N, p ∈ M) → (N.filterMap fun p => if (outW M P I).contains p.1 then keepB z p else some p) = N.filterMap fun p => if P p.1 then keepB z p else some p := by
    intro N
    induction N with
    | nil => intro _; rfl
    | cons p N ih =>
      intro h
      have e : (outW M P I).contains p.1 = P p.1 := by
        rw [Bool.eq_iff_iff, List.contains_iff_mem, outW_mem]
        constructor
        · rintro ⟨_, _, _, _, h⟩; exact h
        · intro hp
          obtain ⟨i, hi, e⟩ := List.mem_iff_getElem.1 (h p (by simp))
          exact ⟨i, h2 i hi, hi, by rw [e], hp⟩
      rw [List.filterMap_cons, List.filterMap_cons, e, ih fun q hq => h q (by simp [hq])]
  exact key M fun p h => h
end Go.Proofs.Ytinfbpldgobmfaa
