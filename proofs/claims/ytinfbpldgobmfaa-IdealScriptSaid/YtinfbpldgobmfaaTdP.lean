/-
  Chapter 22, the plain side: sorted lists of addresses, each once; runs; picking round about. No program in sight.
-/
import Derived.Test.YtinfbpldgobmfaaTd0
namespace Go.Proofs.Ytinfbpldgobmfaa
open Go.RowKit
set_option linter.unusedSimpArgs false
set_option linter.unusedVariables false

abbrev Inc (l : List Int) : Prop := l.Pairwise (· < ·)
theorem inc_ext : ∀ {a b : List Int}, Inc a → Inc b → (∀ x, x ∈ a ↔ x ∈ b) → a = b
  | [], [], _, _, _ => rfl
  | [], y :: b, _, _, h => absurd ((h y).2 List.mem_cons_self) (by simp)
  | x :: a, [], _, _, h => absurd ((h x).1 List.mem_cons_self) (by simp)
  | x :: a, y :: b, ha, hb, h => by
    obtain ⟨ha1, ha2⟩ := List.pairwise_cons.1 ha
    obtain ⟨hb1, hb2⟩ := List.pairwise_cons.1 hb
    have hxy : x = y := by
      rcases List.mem_cons.1 ((h x).1 List.mem_cons_self) with e | e
      · exact e
      · rcases List.mem_cons.1 ((h y).2 List.mem_cons_self) with e2 | e2
        · exact e2.symm
        · have := ha1 y e2; have := hb1 x e; omega
    subst hxy
    refine congrArg _ (inc_ext ha2 hb2 fun z => ⟨fun hz => ?_, fun hz => ?_⟩)
    · have := ha1 z hz
      rcases List.mem_cons.1 ((h z).1 (List.mem_cons_of_mem _ hz)) with e | e
      · omega
      · exact e
    · have := hb1 z hz
      rcases List.mem_cons.1 ((h z).2 (List.mem_cons_of_mem _ hz)) with e | e
      · omega
      · exact e

theorem srt_sorted (zs : List Int) : (srt zs).Pairwise (· ≤ ·) := by
  have h := List.pairwise_mergeSort (le := fun x y : Int => decide (x ≤ y)) (fun a b c => by simp; omega) (fun a b => by simp; omega) zs
  exact h.imp fun h => by simpa using h
theorem mem_srt {zs : List Int} {x : Int} : x ∈ srt zs ↔ x ∈ zs := by simp [srt]
theorem compactUpTo_inc (d : Array Int) (hd : ∀ i j, i ≤ j → j < d.size → d[i]! ≤ d[j]!) : ∀ m, m ≤ d.size → Inc (Lib.compactUpTo d m) ∧ ∀ x, x ∈ Lib.compactUpTo d m ↔ ∃ j, j < m ∧ d[j]! = x
  | 0, _ => by simp [Lib.compactUpTo]
  | m + 1, hm => by
    obtain ⟨h1, h2⟩ := compactUpTo_inc d hd m (by omega)
    rw [Lib.compactUpTo_succ]
    by_cases hk : Lib.keeps d m = true
    · rw [if_pos hk]
      refine ⟨List.pairwise_append.2 ⟨h1, by simp, fun x hx y hy => ?_⟩, fun x => ?_⟩
      · rw [List.mem_singleton.1 hy]
        obtain ⟨j, hj, rfl⟩ := (h2 x).1 hx
        have e1 := hd j (m - 1) (by omega) (by omega)
        have e2 := hd (m - 1) m (by omega) (by omega)
        have e3 : d[m]! ≠ d[m - 1]! := by
          unfold Lib.keeps at hk
          simp only [Bool.or_eq_true, beq_iff_eq, bne_iff_ne, decide_eq_true_eq] at hk
          rcases hk with hk | hk
          · omega
          · exact hk
        omega
      · rw [List.mem_append, List.mem_singleton, h2]
        constructor
        · rintro (⟨j, hj, rfl⟩ | rfl)
          · exact ⟨j, by omega, rfl⟩
          · exact ⟨m, by omega, rfl⟩
        · rintro ⟨j, hj, rfl⟩
          by_cases hjm : j = m
          · subst hjm; exact .inr rfl
          · exact .inl ⟨j, by omega, rfl⟩
    · rw [if_neg hk, List.append_nil]
      refine ⟨h1, fun x => ?_⟩
      rw [h2]
      have e3 : 0 < m ∧ d[m]! = d[m - 1]! := by
        unfold Lib.keeps at hk
        simp only [Bool.or_eq_true, beq_iff_eq, bne_iff_ne, decide_eq_true_eq, not_or, Decidable.not_not] at hk
        omega
      constructor
      · rintro ⟨j, hj, rfl⟩; exact ⟨j, by omega, rfl⟩
      · rintro ⟨j, hj, rfl⟩
        by_cases hjm : j = m
        · subst hjm; exact ⟨j - 1, by omega, e3.2.symm⟩
        · exact ⟨j, by omega, rfl⟩
theorem onceU_both (zs : List Int) : Inc (onceU zs) ∧ ∀ x, x ∈ onceU zs ↔ x ∈ zs := by
  have hs := srt_sorted zs
  have hl : (srt zs).toArray.size = (srt zs).length := by simp
  obtain ⟨h1, h2⟩ := compactUpTo_inc (srt zs).toArray (fun i j hij hj => by
    have hj' : j < (srt zs).length := by simpa using hj
    rw [getElem!_pos _ i (by simpa using Nat.lt_of_le_of_lt hij hj'), getElem!_pos _ j hj]
    simp only [List.getElem_toArray]
    rcases Nat.lt_or_ge i j with h | h
    · exact List.pairwise_iff_getElem.1 hs i j (by omega) hj' h
    · obtain rfl : i = j := by omega
      exact Int.le_refl _) (srt zs).length (by omega)
  refine ⟨h1, fun x => ?_⟩
  unfold onceU Lib.compact
  rw [h2, ← mem_srt (zs := zs), List.mem_iff_getElem]
  constructor
  · rintro ⟨j, hj, rfl⟩
    exact ⟨j, hj, by rw [getElem!_pos _ j (by simpa using hj)]; simp⟩
  · rintro ⟨j, hj, rfl⟩
    exact ⟨j, hj, by rw [getElem!_pos _ j (by simpa using hj)]; simp⟩
theorem onceU_inc (zs : List Int) : Inc (onceU zs) := (onceU_both zs).1
theorem mem_onceU {zs : List Int} {x : Int} : x ∈ onceU zs ↔ x ∈ zs := (onceU_both zs).2 x
theorem onceU_eq {l zs : List Int} (h : Inc l) (hm : ∀ x, x ∈ l ↔ x ∈ zs) : onceU zs = l := inc_ext (onceU_inc zs) h fun x => by rw [mem_onceU, hm]
theorem onceU_len (zs : List Int) : (onceU zs).length ≤ zs.length := by
  unfold onceU
  have h : (Lib.compact (srt zs)).length ≤ (srt zs).length := by
    unfold Lib.compact Lib.compactUpTo
    rw [List.length_map]
    exact Nat.le_trans (List.length_filter_le _ _) (by simp)
  rw [srt_length] at h
  exact h

/-- uint64s -/
abbrev U64s (l : List Int) : Prop := ∀ x ∈ l, 0 ≤ x ∧ x < 18446744073709551616
theorem U64s.once {zs : List Int} (h : U64s zs) : U64s (onceU zs) := fun x hx => h x (mem_onceU.1 hx)

/-- the first addresses from one on, round about -/
def idxU (f : Int) (s : List Int) : Nat := s.countP fun x => decide (x < f)
def pickU (many f : Int) (zs : List Int) : List Int :=
  if many < 1 then [] else ((onceU zs).drop (idxU f (onceU zs)) ++ (onceU zs).take (idxU f (onceU zs))).take many.toNat
theorem idx_le (f : Int) (s : List Int) : idxU f s ≤ s.length := List.countP_le_length
theorem pickU_len (many f : Int) (zs : List Int) (h : 1 ≤ many) : (pickU many f zs).length = min many.toNat (onceU zs).length := by
  unfold pickU
  rw [if_neg (by omega), List.length_take, List.length_append, List.length_drop, List.length_take]
  have := idx_le f (onceU zs)
  omega
theorem idx_zero {s : List Int} (h : U64s s) : idxU 0 s = 0 := by
  unfold idxU
  rw [List.countP_eq_zero]
  intro x hx
  have := (h x hx).1
  simp; omega
theorem pick_all {zs : List Int} {n : Int} (h : U64s zs) (hl : ((onceU zs).length : Int) ≤ n) : pickU n 0 zs = onceU zs := by
  unfold pickU
  by_cases h1 : n < 1
  · rw [if_pos h1, List.eq_nil_of_length_eq_zero (l := onceU zs) (by omega)]
  · rw [if_neg h1, idx_zero h.once]
    simp only [List.drop_zero, List.take_zero, List.append_nil]
    exact List.take_of_length_le (by omega)

/-- runs -/
def runStep (rs : List (Int × Int)) (a : Int) : List (Int × Int) :=
  match rs.getLast? with
  | some r => if (r.1 + r.2) % 18446744073709551616 = a then rs.dropLast ++ [(r.1, r.2 + 1)] else rs ++ [(a, 1)]
  | none => [(a, 1)]
def runsU (l : List Int) : List (Int × Int) := l.foldl runStep []
def expR (r : Int × Int) : List Int := (List.range r.2.toNat).map fun k : Nat => r.1 + (k : Int)
theorem runsU_snoc (l : List Int) (a : Int) : runsU (l ++ [a]) = runStep (runsU l) a := by simp [runsU]
structure RunInv (l : List Int) (rs : List (Int × Int)) : Prop where
  exp : rs.flatMap expR = l
  pos : ∀ r ∈ rs, 1 ≤ r.2
  gap : ∀ i (h : i + 1 < rs.length), (rs[i]'(by omega)).1 + (rs[i]'(by omega)).2 < rs[i + 1].1
theorem run_inv : ∀ (n : Nat) (l : List Int), l.length = n → Inc l → U64s l → RunInv l (runsU l)
  | 0, l, hl, _, _ => by
    obtain rfl := List.eq_nil_of_length_eq_zero hl
    exact ⟨rfl, by simp [runsU], fun i h => by simp [runsU] at h⟩
  | n + 1, l, hl, hi, hu => by
    obtain ⟨l, a, rfl⟩ : ∃ l' a, l = l' ++ [a] := by
      refine ⟨l.dropLast, l.getLast (by intro e; subst e; simp at hl), (List.dropLast_concat_getLast _).symm⟩
    simp only [List.length_append, List.length_cons, List.length_nil, Nat.zero_add, Nat.add_right_cancel_iff] at hl
    obtain ⟨hi1, _, hi2⟩ := List.pairwise_append.1 hi
    have hu1 : U64s l := fun x hx => hu x (List.mem_append_left _ hx)
    have hua := hu a (by simp)
    obtain ⟨e1, e2, e3⟩ := run_inv n l hl hi1 hu1
    rw [runsU_snoc]
    unfold runStep
    cases hr : (runsU l).getLast? with
    | none =>
      have hrs : runsU l = [] := by simpa using hr
      rw [hrs] at e1
      simp only [List.flatMap_nil] at e1
      subst e1
      exact ⟨by simp [expR], by simp, fun i h => by simp at h⟩
    | some r =>
      obtain ⟨ys, hys⟩ := List.getLast?_eq_some_iff.1 hr
      rw [hys] at e1 e2 e3 ⊢
      have hr2 := e2 r (by simp)
      -- the last address of the run
      have hlast : r.1 + r.2 - 1 ∈ l := by
        rw [← e1, List.flatMap_append]
        refine List.mem_append_right _ ?_
        simp only [List.flatMap_cons, List.flatMap_nil, List.append_nil, expR, List.mem_map, List.mem_range]
        exact ⟨(r.2 - 1).toNat, by omega, by omega⟩
      have h1 := hi2 _ hlast a (by simp)
      have h2 := hu1 _ hlast
      have hm : (r.1 + r.2) % 18446744073709551616 = r.1 + r.2 := Int.emod_eq_of_lt (by omega) (by omega)
      simp only [hm, List.dropLast_concat]
      by_cases hc : r.1 + r.2 = a
      · rw [if_pos hc]
        refine ⟨?_, ?_, ?_⟩
        · rw [List.flatMap_append, ← e1, List.flatMap_append, List.append_assoc]
          congr 1
          simp only [List.flatMap_cons, List.flatMap_nil, List.append_nil, expR]
          rw [show (r.2 + 1).toNat = r.2.toNat + 1 by omega, List.range_succ, List.map_append]
          simp only [List.map_cons, List.map_nil]
          rw [show r.1 + ((r.2.toNat : Nat) : Int) = a by omega]
        · intro q hq
          rcases List.mem_append.1 hq with h | h
          · exact e2 q (by simp [h])
          · rw [List.mem_singleton.1 h]; show 1 ≤ r.2 + 1; omega
        · intro i h
          have h' : i + 1 < (ys ++ [r]).length := by simpa using h
          have := e3 i h'
          simp only [List.length_append, List.length_cons, List.length_nil] at h
          by_cases hi : i + 1 < ys.length
          · rw [List.getElem_append_left (by omega), List.getElem_append_left (by omega)] at this ⊢
            exact this
          · have hi' : i + 1 = ys.length := by omega
            rw [List.getElem_append_left (by omega), List.getElem_append_right (by omega)] at this ⊢
            simp only [hi', Nat.sub_self, List.getElem_cons_zero] at this ⊢
            exact this
      · rw [if_neg hc]
        refine ⟨?_, ?_, ?_⟩
        · rw [List.flatMap_append, e1]
          simp [expR]
        · intro q hq
          rcases List.mem_append.1 hq with h | h
          · exact e2 q h
          · rw [List.mem_singleton.1 h]; exact Int.le_refl _
        · intro i h
          simp only [List.length_append, List.length_cons, List.length_nil] at h
          by_cases hi : i + 1 < ys.length + 1
          · have hi2 : i + 1 < (ys ++ [r]).length := by simpa using hi
            have := e3 i hi2
            rw [List.getElem_append_left (show i < (ys ++ [r]).length by omega), List.getElem_append_left (show i + 1 < (ys ++ [r]).length by omega)]
            exact this
          · have hi' : i = ys.length := by omega
            subst hi'
            rw [List.getElem_append_left (by simp), List.getElem_append_right (by simp), List.getElem_append_right (by simp)]
            simp only [List.length_append, List.length_cons, List.length_nil, Nat.sub_self, List.getElem_cons_zero]
            show r.1 + r.2 < a
            omega
theorem runs_inv {zs : List Int} (h : U64s zs) : RunInv (onceU zs) (runsU (onceU zs)) := run_inv _ _ rfl (onceU_inc zs) h.once
/-- how many in all -/
def sumR (rs : List (Int × Int)) : Int := (rs.map (·.2)).sum
theorem sum_exp : ∀ (rs : List (Int × Int)), (∀ r ∈ rs, 1 ≤ r.2) → sumR rs = ((rs.flatMap expR).length : Int)
  | [], _ => rfl
  | r :: rs, h => by
    have h1 := h r List.mem_cons_self
    have ih := sum_exp rs fun q hq => h q (List.mem_cons_of_mem _ hq)
    unfold sumR at *
    simp only [List.map_cons, List.sum_cons, List.flatMap_cons, List.length_append, expR, List.length_map, List.length_range, ih]
    push_cast
    omega
theorem RunInv.last {l : List Int} {rs : List (Int × Int)} (h : RunInv l rs) {r : Int × Int} (hr : rs.getLast? = some r) : l.getLast? = some (r.1 + r.2 - 1) := by
  obtain ⟨ys, rfl⟩ := List.getLast?_eq_some_iff.1 hr
  have h2 := h.pos r (by simp)
  rw [← h.exp, List.flatMap_append, List.getLast?_append]
  have : ([r].flatMap expR).getLast? = some (r.1 + r.2 - 1) := by
    simp only [List.flatMap_cons, List.flatMap_nil, List.append_nil, expR]
    obtain ⟨m, hm⟩ : ∃ m : Nat, r.2.toNat = m + 1 := ⟨r.2.toNat - 1, by omega⟩
    rw [hm, List.range_succ, List.map_append, List.map_cons, List.map_nil, List.getLast?_concat]
    congr 1
    omega
  rw [this]; rfl

/-- so many of a list, round about -/
def cyc (s : List Int) (i m : Nat) : List Int := (List.range m).map fun j : Nat => s.getD ((i + j) % s.length) 0
theorem cyc_len (s : List Int) (i m : Nat) : (cyc s i m).length = m := by simp [cyc]
theorem cyc_add (s : List Int) (i a b : Nat) : cyc s i (a + b) = cyc s i a ++ cyc s (i + a) b := by
  unfold cyc
  rw [List.range_add, List.map_append, List.map_map]
  congr 1
  apply List.map_congr_left
  intro j _
  simp only [Function.comp, Nat.add_assoc]
theorem cyc_mod (s : List Int) {i k : Nat} (h : i % s.length = k % s.length) (m : Nat) : cyc s i m = cyc s k m := by
  unfold cyc
  apply List.map_congr_left
  intro j _
  rw [Nat.add_mod i, h, ← Nat.add_mod]
theorem cyc_mem {s : List Int} (h : 0 < s.length) {i m : Nat} {x : Int} (hx : x ∈ cyc s i m) : x ∈ s := by
  obtain ⟨j, _, rfl⟩ := List.mem_map.1 hx
  have : (i + j) % s.length < s.length := Nat.mod_lt _ h
  rw [Lib.getD_lt s _ this]
  exact List.getElem_mem _
theorem cyc_all {s : List Int} {i m : Nat} (h : s.length ≤ m) {x : Int} (hx : x ∈ s) : x ∈ cyc s i m := by
  obtain ⟨k, hk, rfl⟩ := List.mem_iff_getElem.1 hx
  have hm : i % s.length < s.length := Nat.mod_lt _ (by omega)
  refine List.mem_map.2 ⟨(k + s.length - i % s.length) % s.length, List.mem_range.2 (Nat.lt_of_lt_of_le (Nat.mod_lt _ (by omega)) h), ?_⟩
  have e : (i + (k + s.length - i % s.length) % s.length) % s.length = k := by
    have hi : i = s.length * (i / s.length) + i % s.length := (Nat.div_add_mod i s.length).symm
    generalize i % s.length = a at hm hi ⊢
    generalize i / s.length = q at hi
    subst hi
    rcases Nat.lt_or_ge k a with hak | hak
    rotate_left
    · rw [show k + s.length - a = (k - a) + s.length by omega, Nat.add_mod_right, Nat.mod_eq_of_lt (show k - a < s.length by omega), Nat.add_assoc, Nat.mul_add_mod, show a + (k - a) = k by omega, Nat.mod_eq_of_lt hk]
    · rw [Nat.mod_eq_of_lt (show k + s.length - a < s.length by omega), Nat.add_assoc, Nat.mul_add_mod, show a + (k + s.length - a) = k + s.length by omega, Nat.add_mod_right, Nat.mod_eq_of_lt hk]
  rw [e, Lib.getD_lt s k hk]
theorem cyc_eq {s : List Int} {i m : Nat} (hi : i ≤ s.length) (hm : m ≤ s.length) : (s.drop i ++ s.take i).take m = cyc s i m := by
  apply List.ext_getElem
  · rw [cyc_len, List.length_take, List.length_append, List.length_drop, List.length_take]; omega
  · intro j h1 h2
    rw [cyc_len] at h2
    rw [List.getElem_take]
    simp only [cyc, List.getElem_map, List.getElem_range]
    by_cases hj : j < s.length - i
    · rw [List.getElem_append_left (by rw [List.length_drop]; exact hj), List.getElem_drop, Nat.mod_eq_of_lt (by omega), Lib.getD_lt s _ (by omega)]
    · have e : (i + j) % s.length = j - (s.length - i) := by
        rw [show i + j = (j - (s.length - i)) + s.length by omega, Nat.add_mod_right, Nat.mod_eq_of_lt (by omega)]
      rw [List.getElem_append_right (by rw [List.length_drop]; omega), e, Lib.getD_lt s _ (by omega)]
      simp only [List.length_drop, List.getElem_take]
theorem idx_next {s : List Int} (hi : Inc s) (hu : U64s s) {q : Nat} (hq : q < s.length) : idxU ((s.getD q 0 + 1) % 18446744073709551616) s % s.length = (q + 1) % s.length := by
  have hlt : ∀ a b, a < b → b < s.length → s.getD a 0 < s.getD b 0 := fun a b h1 h2 => by
    rw [Lib.getD_lt s a (by omega), Lib.getD_lt s b h2]
    exact List.pairwise_iff_getElem.1 hi a b (by omega) h2 h1
  have hb : ∀ a, a < s.length → 0 ≤ s.getD a 0 ∧ s.getD a 0 < 18446744073709551616 := fun a h => by rw [Lib.getD_lt s a h]; exact hu _ (List.getElem_mem _)
  by_cases h : s.getD q 0 + 1 < 18446744073709551616
  · have := hb q hq
    rw [Int.emod_eq_of_lt (by omega) h]
    congr 1
    refine Lib.countP_split _ s (q + 1) hq (fun j hj => ?_) (fun j h1 h2 => ?_)
    · rcases Nat.lt_or_ge j q with h3 | h3
      · have := hlt j q h3 hq; exact decide_eq_true (by omega)
      · obtain rfl : j = q := by omega
        exact decide_eq_true (by omega)
    · have := hlt q j (by omega) h2; exact decide_eq_false (by omega)
  · have h1 := hb q hq
    have e : s.getD q 0 + 1 = 18446744073709551616 := by omega
    have hq2 : q + 1 = s.length := by
      rcases Nat.lt_or_ge (q + 1) s.length with h3 | h3
      · have := hlt q (q + 1) (by omega) h3
        have := hb (q + 1) h3
        omega
      · omega
    rw [e, Int.emod_self, idx_zero hu, hq2]; simp
/-- picked from one on -/
theorem pick_cyc {zs : List Int} {many f : Int} (h1 : 1 ≤ many) : pickU many f zs = cyc (onceU zs) (idxU f (onceU zs)) (min many.toNat (onceU zs).length) := by
  unfold pickU
  rw [if_neg (by omega), ← cyc_eq (idx_le _ _) (Nat.min_le_right _ _)]
  rcases Nat.le_total many.toNat (onceU zs).length with h | h
  · rw [Nat.min_eq_left h]
  · have hl : ((onceU zs).drop (idxU f (onceU zs)) ++ (onceU zs).take (idxU f (onceU zs))).length = (onceU zs).length := by
      rw [List.length_append, List.length_drop, List.length_take]; have := idx_le f (onceU zs); omega
    generalize (onceU zs).drop (idxU f (onceU zs)) ++ (onceU zs).take (idxU f (onceU zs)) = l at hl
    rw [Nat.min_eq_right h, List.take_of_length_le (by omega), List.take_of_length_le (by omega)]
theorem behind_cyc {s : List Int} (hi : Inc s) (hu : U64s s) (h0 : 0 < s.length) {f : Int} {i m : Nat} (hm : 0 < m) : idxU (behindU f (cyc s i m)) s % s.length = (i + m) % s.length := by
  have hl : (cyc s i m).getLast? = some (s.getD ((i + (m - 1)) % s.length) 0) := by
    obtain ⟨k, rfl⟩ : ∃ k, m = k + 1 := ⟨m - 1, by omega⟩
    unfold cyc
    rw [List.range_succ, List.map_append, List.map_cons, List.map_nil, List.getLast?_concat]
    rfl
  unfold behindU
  rw [hl]
  show idxU ((s.getD ((i + (m - 1)) % s.length) 0 + 1) % 18446744073709551616) s % s.length = _
  rw [idx_next hi hu (Nat.mod_lt _ h0), Nat.mod_add_mod, show i + (m - 1) + 1 = i + m by omega]
end Go.Proofs.Ytinfbpldgobmfaa
