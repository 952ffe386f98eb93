/-
  Chapter 13, the plain side of its laws: entries put one by one; lists from place to place; addresses that lie apart.
-/
import Derived.Test.YtnophehonkojaaaTb7
namespace Go.Proofs.Ytnophehonkojaaa
set_option linter.unusedSimpArgs false
set_option linter.unusedVariables false

def putsT (L : List Ent) (es : List Ent) : List Ent := es.foldl putT L
def dropsT (L : List Ent) (zs : List Int) : List Ent := zs.foldl dropT L
theorem putsT_snoc (L es : List Ent) (e : Ent) : putsT L (es ++ [e]) = putT (putsT L es) e := by simp [putsT]
theorem dropsT_snoc (L : List Ent) (zs : List Int) (a : Int) : dropsT L (zs ++ [a]) = dropT (dropsT L zs) a := by simp [dropsT]
theorem putsT_inc {L : List Ent} (h : IncE L) (es : List Ent) : IncE (putsT L es) := by
  induction es generalizing L with
  | nil => exact h
  | cons e es ih => exact ih (h.put e)
theorem putT_le {L : List Ent} (h : IncE L) (e : Ent) : (putT L e).length ≤ L.length + 1 ∧ L.length ≤ (putT L e).length := by
  have h1 := putT_len h e
  have h2 : (findE e.addr L).toList.length ≤ 1 := by cases findE e.addr L <;> simp
  omega
theorem putsT_len {L : List Ent} (h : IncE L) (es : List Ent) : (putsT L es).length ≤ L.length + es.length ∧ L.length ≤ (putsT L es).length := by
  induction es generalizing L with
  | nil => exact ⟨by simp [putsT], by simp [putsT]⟩
  | cons e es ih =>
    have h1 := putT_le h e
    have h2 := ih (h.put e)
    simp only [List.length_cons]
    show (putsT (putT L e) es).length ≤ _ ∧ _ ≤ (putsT (putT L e) es).length
    omega
theorem dropT_le (L : List Ent) (a : Int) : (dropT L a).length ≤ L.length := List.length_filter_le _ _
theorem dropsT_len (L : List Ent) (zs : List Int) : (dropsT L zs).length ≤ L.length := by
  induction zs generalizing L with
  | nil => simp [dropsT]
  | cons a zs ih => exact Nat.le_trans (ih (dropT L a)) (dropT_le L a)
theorem dropsT_inc {L : List Ent} (h : IncE L) (zs : List Int) : IncE (dropsT L zs) := by
  induction zs generalizing L with
  | nil => exact h
  | cons a zs ih => exact ih (h.drop a)
theorem findE_puts {L : List Ent} (h : IncE L) (es : List Ent) (a : Int) : findE a (putsT L es) = (findE a (putsT [] es)).or (findE a L) := by
  induction es generalizing L with
  | nil => simp [putsT, findE]
  | cons e es ih =>
    have e1 : putsT L (e :: es) = putsT (putT L e) es := rfl
    have e2 : putsT [] (e :: es) = putsT (putT [] e) es := rfl
    rw [e1, e2, ih (h.put e), ih (IncE.put (L := []) List.Pairwise.nil e), findE_put h, findE_put List.Pairwise.nil]
    by_cases hc : a = e.addr
    · rw [if_pos hc, if_pos hc, Option.or_assoc]; cases findE a (putsT [] es) <;> simp
    · rw [if_neg hc, if_neg hc]; cases findE a (putsT [] es) <;> simp [findE]
theorem ext_find {a b : List Ent} (ha : IncE a) (hb : IncE b) (h : ∀ x, findE x a = findE x b) : a = b := by
  refine incE_ext ha hb fun e => ⟨fun he => ?_, fun he => ?_⟩
  · have := h e.addr; rw [findE_mem ha he] at this; exact (findE_some this.symm).1
  · have := h e.addr; rw [findE_mem hb he] at this; exact (findE_some this).1
/-- from the back: what is there already stays -/
theorem puts_back (e : Ent) (es : List Ent) : putsT [] (e :: es) = if (findE e.addr (putsT [] es)).isSome then putsT [] es else putT (putsT [] es) e := by
  have h0 := putsT_inc List.Pairwise.nil es
  have h1 : IncE (putsT [] (e :: es)) := putsT_inc List.Pairwise.nil _
  have hf : ∀ x, findE x (putsT [] (e :: es)) = (findE x (putsT [] es)).or (if x = e.addr then some e else none) := by
    intro x
    have e2 : putsT [] (e :: es) = putsT (putT [] e) es := rfl
    rw [e2, findE_puts (IncE.put (L := []) List.Pairwise.nil e), findE_put List.Pairwise.nil]
    simp [findE]
  by_cases hs : (findE e.addr (putsT [] es)).isSome = true
  · rw [if_pos hs]
    refine ext_find h1 h0 fun x => ?_
    rw [hf]
    by_cases hx : x = e.addr
    · subst hx
      cases hq : findE e.addr (putsT [] es) with
      | none => rw [hq] at hs; cases hs
      | some y => simp
    · rw [if_neg hx]; simp
  · rw [if_neg hs]
    refine ext_find h1 (h0.put e) fun x => ?_
    rw [hf, findE_put h0]
    by_cases hx : x = e.addr
    · subst hx
      cases hq : findE e.addr (putsT [] es) with
      | none => simp
      | some y => rw [hq] at hs; exact absurd rfl hs
    · rw [if_neg hx, if_neg hx]; simp
theorem puts_mem {es : List Ent} {x : Ent} (h : x ∈ putsT [] es) : x ∈ es := by
  have key : ∀ (es L : List Ent), x ∈ putsT L es → x ∈ L ∨ x ∈ es := by
    intro es
    induction es with
    | nil => intro L h; exact .inl h
    | cons e es ih =>
      intro L h
      rcases ih (putT L e) h with h | h
      · rcases mem_putT.1 h with rfl | ⟨h, _⟩
        · exact .inr (by simp)
        · exact .inl h
      · exact .inr (List.mem_cons_of_mem _ h)
  rcases key es [] h with h | h
  · cases h
  · exact h
theorem puts_is {L : List Ent} (h : IncE L) {es : List Ent} {e : Ent} (he : e ∈ es) : (findE e.addr (putsT L es)).isSome = true := by
  induction es generalizing L with
  | nil => cases he
  | cons x es ih =>
    rcases List.mem_cons.1 he with rfl | he
    · show (findE e.addr (putsT (putT L e) es)).isSome = true
      rw [findE_puts (h.put e), findE_put h, if_pos rfl]
      cases findE e.addr (putsT [] es) <;> rfl
    · exact ih (h.put x) he

/-! ### lists from place to place -/
/-- all ahead of the place lies ahead of the address, all else not -/
def CutAt (L : List Ent) (s : Nat) (f : Int) : Prop := ∀ i (h : i < L.length), i < s ↔ L[i].addr < f
theorem from_drop {L : List Ent} {s : Nat} {f : Int} (h : CutAt L s f) (many : Int) : fromL L f many false = (L.drop s).take many.toNat := by
  unfold fromL
  congr 1
  have e1 : L = L.take s ++ L.drop s := (List.take_append_drop s L).symm
  conv => lhs; rw [e1]
  rw [List.filter_append]
  have e2 : (L.take s).filter (okFrom f false) = [] := List.filter_eq_nil_iff.2 fun x hx => by
    obtain ⟨i, hi, rfl⟩ := List.mem_iff_getElem.1 hx
    rw [List.length_take] at hi
    rw [List.getElem_take]
    have := (h i (by omega)).1 (by omega)
    simp [okFrom]; omega
  have e3 : (L.drop s).filter (okFrom f false) = L.drop s := List.filter_eq_self.2 fun x hx => by
    obtain ⟨i, hi, rfl⟩ := List.mem_iff_getElem.1 hx
    rw [List.length_drop] at hi
    rw [List.getElem_drop]
    have := mt (h (s + i) (by omega)).2 (by omega)
    simp [okFrom]; omega
  rw [e2, e3, List.nil_append]
theorem cut_zero {L : List Ent} (h0 : ∀ e ∈ L, 0 ≤ e.addr) : CutAt L 0 0 := fun i hi => by
  have := h0 _ (List.getElem_mem hi)
  omega
theorem cut_next {L : List Ent} (h : IncE L) {s m : Nat} (hm : 1 ≤ m) (hl : s + m ≤ L.length) : CutAt L (s + m) (L[s + m - 1].addr + 1) := fun i hi => by
  constructor
  · intro h1
    rcases Nat.lt_or_ge i (s + m - 1) with h2 | h2
    · have := List.pairwise_iff_getElem.1 h i (s + m - 1) hi (by omega) h2; omega
    · obtain rfl : i = s + m - 1 := by omega
      omega
  · intro h1
    rcases Nat.lt_or_ge i (s + m) with h2 | h2
    · exact h2
    · have := List.pairwise_iff_getElem.1 h (s + m - 1) i (by omega) hi (by omega); omega
theorem cut_end {L : List Ent} (h : IncE L) (hb : ∀ e ∈ L, e.addr < 18446744073709551616) {k : Nat} (hk : k < L.length) (he : L[k].addr = 18446744073709551615) : k + 1 = L.length := by
  rcases Nat.lt_or_ge (k + 1) L.length with h1 | h1
  · have h2 := List.pairwise_iff_getElem.1 h k (k + 1) hk h1 (by omega)
    have h3 := hb _ (List.getElem_mem h1)
    omega
  · omega

/-! ### how many are dirty -/
theorem dirtyN_put {L : List Ent} (h : IncE L) (e : Ent) (hn : findE e.addr L = none) : dirtyN (putT L e) = dirtyN L + (if e.dirty then 1 else 0) := by
  have hno := findE_none.1 hn
  have e1 : L.filter (·.dirty) = ((L.filter fun x => decide (x.addr < e.addr)) ++ (L.filter fun x => decide (e.addr < x.addr))).filter (·.dirty) := by
    congr 1
    refine incE_ext h ?_ fun x => ?_
    · exact List.pairwise_append.2 ⟨h.filter _, h.filter _, fun x hx y hy => by
        have h1 : x.addr < e.addr := by simpa using (List.mem_filter.1 hx).2
        have h2 : e.addr < y.addr := by simpa using (List.mem_filter.1 hy).2
        omega⟩
    · simp only [List.mem_append, List.mem_filter, decide_eq_true_eq]
      constructor
      · intro hx
        rcases Int.lt_or_lt_of_ne (hno x hx) with h1 | h1
        · exact .inl ⟨hx, h1⟩
        · exact .inr ⟨hx, h1⟩
      · rintro (h | h) <;> exact h.1
  unfold dirtyN
  rw [e1]
  unfold putT
  rw [List.filter_append, List.filter_append, List.length_append, List.length_append]
  by_cases hd : e.dirty = true
  · rw [List.filter_cons_of_pos (by simpa using hd), if_pos hd]; simp only [List.length_cons]; omega
  · rw [List.filter_cons_of_neg (by simpa using hd), if_neg hd]; omega
theorem dirtyN_drop {L : List Ent} (h : IncE L) {e : Ent} (he : findE e.addr L = some e) : dirtyN (dropT L e.addr) + (if e.dirty then 1 else 0) = dirtyN L := by
  have h1 : putT (dropT L e.addr) e = L := by
    refine incE_ext ((h.drop _).put e) h fun x => ?_
    rw [mem_putT, mem_dropT]
    constructor
    · rintro (rfl | ⟨⟨h2, _⟩, _⟩)
      · exact (findE_some he).1
      · exact h2
    · intro hx
      by_cases hc : x.addr = e.addr
      · exact .inl (inc_addr h hx (findE_some he).1 hc)
      · exact .inr ⟨⟨hx, hc⟩, hc⟩
  have h2 := dirtyN_put (h.drop e.addr) e (by rw [findE_drop h, if_pos rfl])
  rw [h1] at h2
  omega

/-! ### addresses by a step -/
def addrS (f : Int) (s : Nat) (i : Nat) : Int := IntKind.u64.wrap (f + (i : Int) * 2 ^ s)
def entS (f : Int) (s : Nat) (i : Nat) : Ent := ⟨addrS f s i, i, decide (i % 2 = 0), 0⟩
theorem addrS_inj {f : Int} {s i j : Nat} (hs : s ≤ 57) (hi : i < 64) (hj : j < 64) (h : addrS f s i = addrS f s j) : i = j := by
  unfold addrS at h
  simp only [show ∀ x, IntKind.u64.wrap x = x % 18446744073709551616 from fun _ => rfl] at h
  have hp : (2 : Nat) ^ s ≤ 2 ^ 57 := Nat.pow_le_pow_right (by omega) hs
  have hpos : 0 < (2 : Nat) ^ s := Nat.pow_pos (by omega)
  have b1 : i * 2 ^ s ≤ 63 * 2 ^ 57 := Nat.mul_le_mul (by omega) hp
  have b2 : j * 2 ^ s ≤ 63 * 2 ^ 57 := Nat.mul_le_mul (by omega) hp
  have c1 : (i : Int) * 2 ^ s = ((i * 2 ^ s : Nat) : Int) := by simp
  have c2 : (j : Int) * 2 ^ s = ((j * 2 ^ s : Nat) : Int) := by simp
  rw [c1, c2] at h
  have h2 : i * 2 ^ s = j * 2 ^ s := by omega
  exact Nat.eq_of_mul_eq_mul_right hpos h2
theorem addrS_nn (f : Int) (s i : Nat) : 0 ≤ addrS f s i ∧ addrS f s i < 18446744073709551616 := by
  unfold addrS
  rw [show ∀ x, IntKind.u64.wrap x = x % 18446744073709551616 from fun _ => rfl]
  omega
/-- the first k of them -/
def stepT (f : Int) (s k : Nat) : List Ent := putsT [] ((List.range k).map (entS f s))
theorem stepT_succ (f : Int) (s k : Nat) : stepT f s (k + 1) = putT (stepT f s k) (entS f s k) := by
  unfold stepT
  rw [List.range_succ, List.map_append, List.map_singleton, putsT_snoc]
theorem stepT_inc (f : Int) (s k : Nat) : IncE (stepT f s k) := putsT_inc List.Pairwise.nil _
theorem stepT_find {f : Int} {s : Nat} (hs : s ≤ 57) {k i : Nat} (hk : k ≤ 64) (hi : i < 64) : findE (addrS f s i) (stepT f s k) = if i < k then some (entS f s i) else none := by
  induction k with
  | zero => simp [stepT, putsT, findE]
  | succ k ih =>
    rw [stepT_succ, findE_put (stepT_inc f s k), ih (by omega)]
    by_cases hc : i = k
    · subst hc; rw [if_pos (show addrS f s i = (entS f s i).addr from rfl), if_pos (by omega)]
    · rw [if_neg (show ¬ addrS f s i = (entS f s k).addr from fun h => hc (addrS_inj hs hi (by omega) h))]
      by_cases h2 : i < k
      · rw [if_pos h2, if_pos (by omega)]
      · rw [if_neg h2, if_neg (by omega)]
theorem stepT_none {f : Int} {s k : Nat} (hs : s ≤ 57) (hk : k < 64) : findE (entS f s k).addr (stepT f s k) = none := by
  rw [show (entS f s k).addr = addrS f s k from rfl, stepT_find hs (by omega) hk, if_neg (by omega)]
theorem stepT_len {f : Int} {s : Nat} (hs : s ≤ 57) {k : Nat} (hk : k ≤ 64) : (stepT f s k).length = k := by
  induction k with
  | zero => rfl
  | succ k ih =>
    have h1 := putT_len (stepT_inc f s k) (entS f s k)
    rw [stepT_none hs (by omega), ih (by omega), ← stepT_succ] at h1
    simpa using h1
theorem stepT_dirty {f : Int} {s : Nat} (hs : s ≤ 57) {k : Nat} (hk : k ≤ 64) : dirtyN (stepT f s k) = (k + 1) / 2 := by
  induction k with
  | zero => rfl
  | succ k ih =>
    rw [stepT_succ, dirtyN_put (stepT_inc f s k) _ (stepT_none hs (by omega)), ih (by omega)]
    by_cases h : k % 2 = 0
    · rw [if_pos (by simp [entS, h])]; omega
    · rw [if_neg (by simp [entS, h])]; omega
/-- the first c of them dropped again -/
def cutT (f : Int) (s k c : Nat) : List Ent := dropsT (stepT f s k) ((List.range c).map (addrS f s))
theorem cutT_succ (f : Int) (s k c : Nat) : cutT f s k (c + 1) = dropT (cutT f s k c) (addrS f s c) := by
  unfold cutT
  rw [List.range_succ, List.map_append, List.map_singleton, dropsT_snoc]
theorem cutT_inc (f : Int) (s k c : Nat) : IncE (cutT f s k c) := dropsT_inc (stepT_inc f s k) _
theorem cutT_find {f : Int} {s : Nat} (hs : s ≤ 57) {k c i : Nat} (hk : k ≤ 64) (hc : c ≤ k) (hi : i < 64) : findE (addrS f s i) (cutT f s k c) = if c ≤ i ∧ i < k then some (entS f s i) else none := by
  induction c with
  | zero => rw [show cutT f s k 0 = stepT f s k from rfl, stepT_find hs hk hi]; by_cases h : i < k <;> simp [h]
  | succ c ih =>
    rw [cutT_succ, findE_drop (cutT_inc f s k c), ih (by omega)]
    by_cases hx : i = c
    · subst hx; rw [if_pos rfl, if_neg (by omega)]
    · rw [if_neg (fun h => hx (addrS_inj hs hi (by omega) h))]
      by_cases h2 : c ≤ i ∧ i < k
      · rw [if_pos h2, if_pos (by omega)]
      · rw [if_neg h2, if_neg (by omega)]
theorem cutT_both {f : Int} {s : Nat} (hs : s ≤ 57) {k c : Nat} (hk : k ≤ 64) (hc : c ≤ k) : (cutT f s k c).length + c = k ∧ dirtyN (cutT f s k c) + (c + 1) / 2 = (k + 1) / 2 := by
  induction c with
  | zero => exact ⟨by rw [show cutT f s k 0 = stepT f s k from rfl, stepT_len hs hk]; rfl, by rw [show cutT f s k 0 = stepT f s k from rfl, stepT_dirty hs hk]; rfl⟩
  | succ c ih =>
    obtain ⟨h1, h2⟩ := ih (by omega)
    have hf : findE (addrS f s c) (cutT f s k c) = some (entS f s c) := by rw [cutT_find hs hk (by omega) (by omega), if_pos (by omega)]
    have h3 := drop_len (cutT_inc f s k c) (addrS f s c)
    rw [hf, ← cutT_succ] at h3
    have h4 := dirtyN_drop (cutT_inc f s k c) (e := entS f s c) hf
    rw [show (entS f s c).addr = addrS f s c from rfl, ← cutT_succ] at h4
    simp only [Option.toList, List.length_cons, List.length_nil] at h3
    refine ⟨by omega, ?_⟩
    by_cases h : c % 2 = 0
    · rw [if_pos (by simp [entS, h])] at h4; omega
    · rw [if_neg (by simp [entS, h])] at h4; omega
end Go.Proofs.Ytnophehonkojaaa
