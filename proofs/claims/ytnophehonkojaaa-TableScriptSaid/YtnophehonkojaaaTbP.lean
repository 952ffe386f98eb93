/-
  Package table, the plain side: a table's entries by rising addresses; what its buckets have to do with them.
-/
import Derived.Test.YtnophehonkojaaaTb4
namespace Go.Proofs.Ytnophehonkojaaa
set_option linter.unusedSimpArgs false
set_option linter.unusedVariables false

def putT (L : List Ent) (e : Ent) : List Ent := L.filter (fun x => decide (x.addr < e.addr)) ++ e :: L.filter (fun x => decide (e.addr < x.addr))
def dropT (L : List Ent) (a : Int) : List Ent := L.filter (fun x => decide (x.addr ≠ a))
theorem mem_putT {L : List Ent} {e x : Ent} : x ∈ putT L e ↔ x = e ∨ (x ∈ L ∧ x.addr ≠ e.addr) := by
  unfold putT
  simp only [List.mem_append, List.mem_filter, List.mem_cons, decide_eq_true_eq]
  constructor
  · rintro (⟨h1, h2⟩ | h | ⟨h1, h2⟩)
    · exact .inr ⟨h1, by omega⟩
    · exact .inl h
    · exact .inr ⟨h1, by omega⟩
  · rintro (h | ⟨h1, h2⟩)
    · exact .inr (.inl h)
    · rcases Int.lt_or_lt_of_ne h2 with h | h
      · exact .inl ⟨h1, h⟩
      · exact .inr (.inr ⟨h1, h⟩)
theorem mem_dropT {L : List Ent} {a : Int} {x : Ent} : x ∈ dropT L a ↔ x ∈ L ∧ x.addr ≠ a := by simp [dropT, List.mem_filter]
theorem IncE.put {L : List Ent} (h : IncE L) (e : Ent) : IncE (putT L e) := by
  unfold putT
  refine List.pairwise_append.2 ⟨h.filter _, List.pairwise_cons.2 ⟨fun y hy => by simpa using (List.mem_filter.1 hy).2, h.filter _⟩, fun x hx y hy => ?_⟩
  have h1 : x.addr < e.addr := by simpa using (List.mem_filter.1 hx).2
  rcases List.mem_cons.1 hy with rfl | hy
  · exact h1
  · have h2 : e.addr < y.addr := by simpa using (List.mem_filter.1 hy).2
    omega
theorem IncE.drop {L : List Ent} (h : IncE L) (a : Int) : IncE (dropT L a) := h.filter _
theorem inc_addr {L : List Ent} (h : IncE L) {x y : Ent} (hx : x ∈ L) (hy : y ∈ L) (he : x.addr = y.addr) : x = y := by
  induction L with
  | nil => cases hx
  | cons z zs ih =>
    obtain ⟨h1, h2⟩ := List.pairwise_cons.1 h
    rcases List.mem_cons.1 hx with ex | hx' <;> rcases List.mem_cons.1 hy with ey | hy'
    · rw [ex, ey]
    · have := h1 y hy'; rw [ex] at he; omega
    · have := h1 x hx'; rw [ey] at he; omega
    · exact ih h2 hx' hy'
theorem findE_some {a : Int} {L : List Ent} {e : Ent} (h : findE a L = some e) : e ∈ L ∧ e.addr = a := by
  unfold findE at h
  exact ⟨List.mem_of_find?_eq_some h, by simpa using List.find?_some h⟩
theorem findE_none {a : Int} {L : List Ent} : findE a L = none ↔ ∀ x ∈ L, x.addr ≠ a := by
  unfold findE
  simp [List.find?_eq_none]
theorem findE_mem {L : List Ent} (h : IncE L) {e : Ent} (he : e ∈ L) : findE e.addr L = some e := by
  cases hf : findE e.addr L with
  | none => exact absurd rfl (findE_none.1 hf e he)
  | some x =>
    obtain ⟨h1, h2⟩ := findE_some hf
    rw [inc_addr h h1 he h2]
theorem incE_ext : ∀ {a b : List Ent}, IncE a → IncE b → (∀ x, x ∈ a ↔ x ∈ b) → a = b := by
  intro a b ha hb hm
  have na : a.Nodup := ha.imp (fun {x y} h e => by subst e; omega)
  have nb : b.Nodup := hb.imp (fun {x y} h e => by subst e; omega)
  exact asc_eq hb (ha.imp fun {x y} h => by omega) ((List.perm_ext_iff_of_nodup na nb).2 hm)
theorem findE_put {L : List Ent} (h : IncE L) (e : Ent) (a : Int) : findE a (putT L e) = if a = e.addr then some e else findE a L := by
  by_cases hc : a = e.addr
  · rw [if_pos hc, hc]; exact findE_mem (h.put e) (mem_putT.2 (.inl rfl))
  · rw [if_neg hc]
    cases hf : findE a L with
    | none =>
      refine findE_none.2 fun x hx => ?_
      rcases mem_putT.1 hx with rfl | ⟨h1, _⟩
      · exact fun e => hc e.symm
      · exact findE_none.1 hf x h1
    | some x =>
      obtain ⟨h1, h2⟩ := findE_some hf
      subst h2
      exact findE_mem (h.put e) (mem_putT.2 (.inr ⟨h1, hc⟩))
theorem findE_drop {L : List Ent} (h : IncE L) (a b : Int) : findE a (dropT L b) = if a = b then none else findE a L := by
  by_cases hc : a = b
  · rw [if_pos hc]; exact findE_none.2 fun x hx => by rw [hc]; exact (mem_dropT.1 hx).2
  · rw [if_neg hc]
    cases hf : findE a L with
    | none => exact findE_none.2 fun x hx => findE_none.1 hf x (mem_dropT.1 hx).1
    | some x =>
      obtain ⟨h1, h2⟩ := findE_some hf
      subst h2
      exact findE_mem (h.drop b) (mem_dropT.2 ⟨h1, hc⟩)
theorem findE_cons (a : Int) (x : Ent) (xs : List Ent) : findE a (x :: xs) = if x.addr = a then some x else findE a xs := by
  unfold findE
  by_cases h : x.addr = a
  · rw [if_pos h, List.find?_cons_of_pos (by simpa using h)]
  · rw [if_neg h, List.find?_cons_of_neg (by simpa using h)]
theorem eqs_len {L : List Ent} (h : IncE L) (a : Int) : (L.filter fun x => decide (x.addr = a)).length = (findE a L).toList.length := by
  induction L with
  | nil => rfl
  | cons x xs ih =>
    obtain ⟨h1, h2⟩ := List.pairwise_cons.1 h
    by_cases hx : x.addr = a
    · have e1 : (xs.filter fun x => decide (x.addr = a)) = [] := List.filter_eq_nil_iff.2 fun y hy => by have := h1 y hy; simp; omega
      have e2 : findE a (x :: xs) = some x := by rw [← hx]; exact findE_mem h (by simp)
      rw [e2, List.filter_cons_of_pos (by simpa using hx), e1]; rfl
    · rw [List.filter_cons_of_neg (by simpa using hx), ih h2]
      rw [findE_cons, if_neg hx]
theorem three_len (L : List Ent) (a : Int) : (L.filter fun x => decide (x.addr < a)).length + (L.filter fun x => decide (a < x.addr)).length + (L.filter fun x => decide (x.addr = a)).length = L.length := by
  induction L with
  | nil => rfl
  | cons x xs ih =>
    rcases Int.lt_trichotomy x.addr a with h | h | h
    · rw [List.filter_cons_of_pos (by simpa using h), List.filter_cons_of_neg (by simp; omega), List.filter_cons_of_neg (by simp; omega)]; simp; omega
    · rw [List.filter_cons_of_neg (by simp; omega), List.filter_cons_of_neg (by simp; omega), List.filter_cons_of_pos (by simpa using h)]; simp; omega
    · rw [List.filter_cons_of_neg (by simp; omega), List.filter_cons_of_pos (by simpa using h), List.filter_cons_of_neg (by simp; omega)]; simp; omega
theorem putT_len {L : List Ent} (h : IncE L) (e : Ent) : (putT L e).length + (findE e.addr L).toList.length = L.length + 1 := by
  have h1 := three_len L e.addr
  have h2 := eqs_len h e.addr
  unfold putT
  rw [List.length_append, List.length_cons]; omega
theorem two_len (L : List Ent) (a : Int) : (dropT L a).length + (L.filter fun x => decide (x.addr = a)).length = L.length := by
  unfold dropT
  induction L with
  | nil => rfl
  | cons x xs ih =>
    by_cases h : x.addr = a
    · rw [List.filter_cons_of_neg (by simpa using h), List.filter_cons_of_pos (by simpa using h)]; simp only [List.length_cons]; omega
    · rw [List.filter_cons_of_pos (by simpa using h), List.filter_cons_of_neg (by simpa using h)]; simp only [List.length_cons]; omega
theorem drop_len {L : List Ent} (h : IncE L) (a : Int) : (dropT L a).length + (findE a L).toList.length = L.length := by
  have h1 := two_len L a
  have h2 := eqs_len h a
  omega

/-- what a table's buckets have to do with its entries -/
structure TOk (bk : List (List Ent)) (L : List Ent) : Prop where
  pos : 0 < bk.length
  le : bk.length ≤ 250000
  inc : IncE L
  nn : ∀ e ∈ L, 0 ≤ e.addr
  home : ∀ (i : Nat) (es : List Ent), bk[i]? = some es → ∀ e ∈ es, hashT e.addr bk.length = i
  dist : ∀ es ∈ bk, es.Pairwise fun x y => x.addr ≠ y.addr
  mem : ∀ e, e ∈ L ↔ ∃ es ∈ bk, e ∈ es

section
variable {bk : List (List Ent)} {L : List Ent}
theorem TOk.perm (h : TOk bk L) : L.Perm bk.flatten := by
  have n1 : L.Nodup := h.inc.imp (fun {x y} h e => by subst e; omega)
  have n2 : bk.flatten.Nodup := by
    unfold List.Nodup
    refine List.pairwise_flatten.2 ⟨fun es hes => (h.dist es hes).imp fun {x y} hne e => by subst e; exact hne rfl, ?_⟩
    refine List.pairwise_iff_getElem.2 fun i j hi hj hij x hx y hy e => ?_
    subst e
    have h1 := h.home i _ (List.getElem?_eq_getElem hi) x hx
    have h2 := h.home j _ (List.getElem?_eq_getElem hj) x hy
    omega
  refine (List.perm_ext_iff_of_nodup n1 n2).2 fun x => ?_
  rw [h.mem, List.mem_flatten]
theorem TOk.bucket (h : TOk bk L) (a : Int) : ∃ es, bk[hashT a bk.length]? = some es ∧ findE a es = findE a L ∧ (∀ x ∈ es, x ∈ L) ∧ es.length ≤ L.length := by
  have hl := hashT_lt a bk.length h.pos
  refine ⟨bk[hashT a bk.length], List.getElem?_eq_getElem hl, ?_, fun x hx => (h.mem x).2 ⟨_, List.getElem_mem hl, hx⟩, ?_⟩
  · cases hf : findE a L with
    | none => exact findE_none.2 fun x hx => findE_none.1 hf x ((h.mem x).2 ⟨_, List.getElem_mem hl, hx⟩)
    | some e =>
      obtain ⟨h1, h2⟩ := findE_some hf
      obtain ⟨es, hes, hee⟩ := (h.mem e).1 h1
      obtain ⟨i, hi, rfl⟩ := List.mem_iff_getElem.1 hes
      have hh := h.home i _ (List.getElem?_eq_getElem hi) e hee
      rw [h2] at hh
      subst hh
      cases hg : findE a bk[hashT a bk.length] with
      | none => exact absurd h2 (findE_none.1 hg e hee)
      | some x =>
        obtain ⟨h3, h4⟩ := findE_some hg
        rw [inc_addr h.inc ((h.mem x).2 ⟨_, List.getElem_mem hl, h3⟩) h1 (by omega)]
  · have h1 := h.perm.length_eq
    have h2 := congrArg List.length (flatten_split bk _ _ (List.getElem?_eq_getElem hl))
    rw [List.length_append, List.length_append] at h2
    omega
theorem TOk.inb (h : TOk bk L) {i : Nat} {es : List Ent} (hes : bk[i]? = some es) (x : Ent) : x ∈ es ↔ x ∈ L ∧ hashT x.addr bk.length = i := by
  constructor
  · intro hx
    exact ⟨(h.mem x).2 ⟨es, List.mem_of_getElem? hes, hx⟩, h.home i es hes x hx⟩
  · rintro ⟨h1, h2⟩
    obtain ⟨es2, he2, hx2⟩ := (h.mem x).1 h1
    obtain ⟨j, hj, rfl⟩ := List.mem_iff_getElem.1 he2
    have h3 := h.home j _ (List.getElem?_eq_getElem hj) x hx2
    have hij : i = j := by omega
    subst hij
    rw [List.getElem?_eq_getElem hj] at hes
    rw [← Option.some.inj hes]; exact hx2
theorem TOk.set (h : TOk bk L) {i : Nat} {es : List Ent} (hes : bk[i]? = some es) {es' L' : List Ent} (h1 : ∀ e ∈ es', hashT e.addr bk.length = i) (h2 : es'.Pairwise fun x y => x.addr ≠ y.addr) (hi : IncE L') (hn : ∀ e ∈ L', 0 ≤ e.addr)
    (hm : ∀ e, e ∈ L' ↔ e ∈ es' ∨ (e ∈ L ∧ hashT e.addr bk.length ≠ i)) : TOk (bk.set i es') L' := by
  have hlt : i < bk.length := (List.getElem?_eq_some_iff.1 hes).1
  refine ⟨by rw [List.length_set]; exact h.pos, by rw [List.length_set]; exact h.le, hi, hn, fun j fs hj e he => ?_, fun fs hf => ?_, fun e => ?_⟩
  · rw [List.length_set]
    rw [List.getElem?_set] at hj
    by_cases hij : i = j
    · subst hij
      rw [if_pos rfl, if_pos hlt] at hj
      exact h1 e (by rw [Option.some.inj hj]; exact he)
    · rw [if_neg hij] at hj
      exact h.home j fs hj e he
  · rcases List.mem_or_eq_of_mem_set hf with hf | rfl
    · exact h.dist fs hf
    · exact h2
  · rw [hm]
    constructor
    · rintro (he | ⟨he, hne⟩)
      · exact ⟨es', List.mem_set hlt _, he⟩
      · obtain ⟨fs, hf, hef⟩ := (h.mem e).1 he
        obtain ⟨j, hj, rfl⟩ := List.mem_iff_getElem.1 hf
        have h3 := h.home j _ (List.getElem?_eq_getElem hj) e hef
        refine ⟨bk[j], List.mem_of_getElem? (i := j) ?_, hef⟩
        rw [List.getElem?_set, if_neg (by omega), List.getElem?_eq_getElem hj]
    · rintro ⟨fs, hf, hef⟩
      obtain ⟨j, hj, rfl⟩ := List.mem_iff_getElem.1 hf
      rw [List.getElem_set] at hef
      by_cases hij : i = j
      · rw [if_pos hij] at hef; exact .inl hef
      · rw [if_neg hij] at hef
        have hj' : j < bk.length := by simpa using hj
        have h3 := h.home j _ (List.getElem?_eq_getElem hj') e hef
        exact .inr ⟨(h.mem e).2 ⟨_, List.getElem_mem hj', hef⟩, by omega⟩
theorem TOk.old (h : TOk bk L) {e : Ent} {es : List Ent} (hes : bk[hashT e.addr bk.length]? = some es) {i : Nat} (hi : i < es.length) (ha : es[i].addr = e.addr) (h0 : 0 ≤ e.addr) : TOk (bk.set (hashT e.addr bk.length) (es.set i e)) (putT L e) := by
  have hd := h.dist es (List.mem_of_getElem? hes)
  have hd2 : ∀ j (hj : j < es.length), j ≠ i → es[j].addr ≠ e.addr := by
    intro j hj hji he
    rcases Nat.lt_or_lt_of_ne hji with hlt | hlt
    · exact List.pairwise_iff_getElem.1 hd j i hj hi hlt (by omega)
    · exact List.pairwise_iff_getElem.1 hd i j hi hj hlt (by omega)
  have hmem : ∀ x, x ∈ es.set i e ↔ x = e ∨ (x ∈ es ∧ x.addr ≠ e.addr) := by
    intro x
    constructor
    · intro hx
      obtain ⟨j, hj, rfl⟩ := List.mem_iff_getElem.1 hx
      rw [List.getElem_set]
      by_cases hij : i = j
      · rw [if_pos hij]; exact .inl rfl
      · rw [if_neg hij]; exact .inr ⟨List.getElem_mem _, hd2 j (by simpa using hj) (by omega)⟩
    · rintro (rfl | ⟨hx, hne⟩)
      · exact List.mem_set hi _
      · obtain ⟨j, hj, rfl⟩ := List.mem_iff_getElem.1 hx
        have hji : i ≠ j := by rintro rfl; exact hne ha
        exact List.mem_of_getElem? (i := j) (by rw [List.getElem?_set, if_neg hji, List.getElem?_eq_getElem hj])
  refine h.set hes ?_ ?_ (h.inc.put e) ?_ fun x => ?_
  · intro x hx
    rcases (hmem x).1 hx with rfl | ⟨hx, _⟩
    · rfl
    · exact ((h.inb hes x).1 hx).2
  · refine List.pairwise_iff_getElem.2 fun j k hj hk hjk => ?_
    have hj' : j < es.length := by simpa using hj
    have hk' : k < es.length := by simpa using hk
    rw [List.getElem_set, List.getElem_set]
    by_cases h1 : i = j
    · rw [if_pos h1, if_neg (by omega)]; exact fun he => hd2 k hk' (by omega) he.symm
    · rw [if_neg h1]
      by_cases h2 : i = k
      · rw [if_pos h2]; exact hd2 j hj' (by omega)
      · rw [if_neg h2]; exact List.pairwise_iff_getElem.1 hd j k hj' hk' hjk
  · intro x hx
    rcases mem_putT.1 hx with rfl | ⟨hx, _⟩
    · exact h0
    · exact h.nn x hx
  · rw [mem_putT, hmem, h.inb hes]
    constructor
    · rintro (rfl | ⟨h1, h2⟩)
      · exact .inl (.inl rfl)
      · by_cases hh : hashT x.addr bk.length = hashT e.addr bk.length
        · exact .inl (.inr ⟨⟨h1, hh⟩, h2⟩)
        · exact .inr ⟨h1, hh⟩
    · rintro ((rfl | ⟨⟨h1, _⟩, h2⟩) | ⟨h1, h2⟩)
      · exact .inl rfl
      · exact .inr ⟨h1, h2⟩
      · exact .inr ⟨h1, fun he => h2 (by rw [he])⟩
theorem TOk.new (h : TOk bk L) {e : Ent} {es : List Ent} (hes : bk[hashT e.addr bk.length]? = some es) (hn : findE e.addr es = none) (h0 : 0 ≤ e.addr) : TOk (bk.set (hashT e.addr bk.length) (es ++ [e])) (putT L e) := by
  have hd := h.dist es (List.mem_of_getElem? hes)
  have hne := findE_none.1 hn
  refine h.set hes ?_ ?_ (h.inc.put e) ?_ fun x => ?_
  · intro x hx
    rcases List.mem_append.1 hx with hx | hx
    · exact ((h.inb hes x).1 hx).2
    · rw [List.mem_singleton.1 hx]
  · exact List.pairwise_append.2 ⟨hd, List.pairwise_singleton _ _, fun x hx y hy => by rw [List.mem_singleton.1 hy]; exact hne x hx⟩
  · intro x hx
    rcases mem_putT.1 hx with rfl | ⟨hx, _⟩
    · exact h0
    · exact h.nn x hx
  · rw [mem_putT, List.mem_append, List.mem_singleton, h.inb hes]
    constructor
    · rintro (rfl | ⟨h1, h2⟩)
      · exact .inl (.inr rfl)
      · by_cases hh : hashT x.addr bk.length = hashT e.addr bk.length
        · exact .inl (.inl ⟨h1, hh⟩)
        · exact .inr ⟨h1, hh⟩
    · rintro ((⟨h1, h2⟩ | rfl) | ⟨h1, h2⟩)
      · exact .inr ⟨h1, hne x ((h.inb hes x).2 ⟨h1, h2⟩)⟩
      · exact .inl rfl
      · exact .inr ⟨h1, fun he => h2 (by rw [he])⟩
theorem TOk.out (h : TOk bk L) {a : Int} {es : List Ent} (hes : bk[hashT a bk.length]? = some es) {i : Nat} (hi : i < es.length) (ha : es[i].addr = a) : TOk (bk.set (hashT a bk.length) (es.eraseIdx i)) (dropT L a) := by
  have hd := h.dist es (List.mem_of_getElem? hes)
  have hmem : ∀ x, x ∈ es.eraseIdx i ↔ (x ∈ es ∧ x.addr ≠ a) := by
    intro x
    rw [List.mem_eraseIdx_iff_getElem]
    constructor
    · rintro ⟨j, hj, hji, rfl⟩
      refine ⟨List.getElem_mem _, fun he => ?_⟩
      rcases Nat.lt_or_lt_of_ne hji with hlt | hlt
      · exact List.pairwise_iff_getElem.1 hd j i hj hi hlt (by omega)
      · exact List.pairwise_iff_getElem.1 hd i j hi hj hlt (by omega)
    · rintro ⟨hx, hne⟩
      obtain ⟨j, hj, rfl⟩ := List.mem_iff_getElem.1 hx
      exact ⟨j, hj, by rintro rfl; exact hne ha, rfl⟩
  refine h.set hes ?_ ?_ (h.inc.drop a) ?_ fun x => ?_
  · exact fun x hx => ((h.inb hes x).1 ((hmem x).1 hx).1).2
  · exact hd.sublist (List.eraseIdx_sublist _ _)
  · exact fun x hx => h.nn x (mem_dropT.1 hx).1
  · rw [mem_dropT, hmem, h.inb hes]
    constructor
    · rintro ⟨h1, h2⟩
      by_cases hh : hashT x.addr bk.length = hashT a bk.length
      · exact .inl ⟨⟨h1, hh⟩, h2⟩
      · exact .inr ⟨h1, hh⟩
    · rintro (⟨⟨h1, _⟩, h2⟩ | ⟨h1, h2⟩)
      · exact ⟨h1, h2⟩
      · exact ⟨h1, fun he => h2 (by rw [he])⟩
end

/-- entries, spread over so many buckets -/
def spread (L : List Ent) (n : Nat) : List (List Ent) := (List.range n).map fun i => L.filter fun e => decide (hashT e.addr n = i)
theorem spread_len (L : List Ent) (n : Nat) : (spread L n).length = n := by simp [spread]
theorem spread_get (L : List Ent) (n : Nat) {i : Nat} (hi : i < n) : (spread L n)[i]? = some (L.filter fun e => decide (hashT e.addr n = i)) := by simp [spread, hi]
theorem spread_nil (n : Nat) : spread [] n = List.replicate n [] := by
  apply List.ext_getElem
  · simp [spread]
  · intro i h1 h2; simp [spread]
theorem spread_step (L : List Ent) (n k : Nat) (hn : 0 < n) (hk : k < L.length) : (spread (L.take k) n).set (hashT L[k].addr n) ((L.take k).filter (fun e => decide (hashT e.addr n = hashT L[k].addr n)) ++ [L[k]]) = spread (L.take (k + 1)) n := by
  apply List.ext_getElem
  · simp [spread]
  · intro i h1 h2
    rw [List.getElem_set]
    have hi : i < n := by simpa [spread] using h2
    have e1 : ∀ M : List Ent, (spread M n)[i]'(by simpa [spread] using hi) = M.filter fun e => decide (hashT e.addr n = i) := fun M => by simp [spread]
    rw [e1, e1, List.take_succ_eq_append_getElem hk, List.filter_append]
    by_cases hh : hashT L[k].addr n = i
    · rw [if_pos hh, List.filter_cons_of_pos (by simpa using hh), hh]; rfl
    · rw [if_neg hh, List.filter_cons_of_neg (by simpa using hh)]; simp
theorem spread_ok {L : List Ent} {n : Nat} (hn : 0 < n) (hn2 : n ≤ 250000) (hi : IncE L) (h0 : ∀ e ∈ L, 0 ≤ e.addr) : TOk (spread L n) L := by
  refine ⟨by rw [spread_len]; exact hn, by rw [spread_len]; exact hn2, hi, h0, fun i es hes e he => ?_, fun es hes => ?_, fun e => ?_⟩
  · rw [spread_len]
    have hlt : i < n := by have := (List.getElem?_eq_some_iff.1 hes).1; rwa [spread_len] at this
    rw [spread_get L n hlt] at hes
    rw [← Option.some.inj hes] at he
    simpa using (List.mem_filter.1 he).2
  · obtain ⟨i, _, rfl⟩ := List.mem_map.1 hes
    exact (hi.filter _).imp fun {x y} h => by omega
  · constructor
    · intro he
      exact ⟨_, List.mem_map.2 ⟨hashT e.addr n, List.mem_range.2 (hashT_lt _ _ hn), rfl⟩, List.mem_filter.2 ⟨he, by simp⟩⟩
    · rintro ⟨es, hes, he⟩
      obtain ⟨i, _, rfl⟩ := List.mem_map.1 hes
      exact (List.mem_filter.1 he).1
end Go.Proofs.Ytnophehonkojaaa
