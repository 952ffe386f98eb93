/-
  Chapter 18: the code's model and the document's agree: the plain side.
-/
import Derived.Test.YtinfbpldgobmfaaR18G
namespace Go.Proofs.Ytinfbpldgobmfaa
open Go.RowKit
set_option linter.unusedSimpArgs false
set_option linter.unusedVariables false

/-! ### the code's map -/
theorem mem_normB {x : BK} {l : List BK} : x ∈ normB l ↔ x ∈ l ∨ (x = BK.none ∧ hasClean l = true) := by
  unfold normB
  rw [mem_canon]
  split
  · rename_i h; simp [h]
  · rename_i h; simp [h]
theorem norm_ne {l : List BK} (h0 : l ≠ []) : normB l ≠ [] := by
  obtain ⟨x, hx⟩ := List.exists_mem_of_ne_nil l h0
  intro e
  have := mem_normB.2 (.inl hx)
  rw [e] at this
  cases this
theorem look_out {M : List (Int × List BK)} {b : Int} (h : ∀ p ∈ M, p.1 ≠ b) : lookM M b = [] := by
  unfold lookM
  rw [List.find?_eq_none.2 fun p hp => by simpa using h p hp]
  rfl
theorem look_mid {A B : List (Int × List BK)} {a b : Int} {x : List BK} (h : a ≠ b) : lookM (A ++ (a, x) :: B) b = lookM (A ++ B) b := by
  unfold lookM
  rw [List.find?_append, List.find?_append, List.find?_cons_of_neg (by simpa using h)]
theorem look_end {A : List (Int × List BK)} {a b : Int} {x : List BK} (h : a ≠ b) : lookM (A ++ [(a, x)]) b = lookM A b := by
  rw [look_mid h, List.append_nil]
theorem at_split' {A B : List (Int × List BK)} {a : Int} {x : List BK} (hA : ∀ p ∈ A, p.1 ≠ a) (hx : x ≠ []) : atM (A ++ (a, x) :: B) a = x := at_split hA hx
theorem atM_out {M : List (Int × List BK)} {b : Int} (h : ∀ p ∈ M, p.1 ≠ b) : atM M b = [BK.none] := by
  unfold atM
  rw [look_out h]
  rfl
theorem atM_of_look {M N : List (Int × List BK)} {b : Int} (h : lookM M b = lookM N b) : atM M b = atM N b := by
  unfold atM
  rw [h]
theorem atM_set {M : List (Int × List BK)} {a b : Int} {l : List BK} (hM : MOk M) (h0 : l ≠ []) : atM (setM M a l) b = if b = a then normB l else atM M b := by
  by_cases hk : ∃ p ∈ M, p.1 = a
  · obtain ⟨p, hp, hpa⟩ := hk
    obtain ⟨A, B, rfl⟩ := List.append_of_mem hp
    obtain ⟨pa, x⟩ := p
    have hpa : pa = a := hpa
    subst hpa
    have hn := hM.nodup
    rw [List.map_append, List.map_cons, List.nodup_append] at hn
    have hA : ∀ q ∈ A, q.1 ≠ pa := fun q hq e => hn.2.2 q.1 (List.mem_map.2 ⟨q, hq, rfl⟩) pa (by simp) e
    have hB : ∀ q ∈ B, q.1 ≠ pa := fun q hq e => (List.nodup_cons.1 hn.2.1).1 (List.mem_map.2 ⟨q, hq, e⟩)
    rw [set_split hA]
    by_cases hb : b = pa
    · rw [if_pos hb]
      subst hb
      by_cases hN : normB l = [BK.none]
      · rw [if_pos hN, hN, List.nil_append]
        exact atM_out fun q hq => by
          rcases List.mem_append.1 hq with h | h
          · exact hA q h
          · exact hB q h
      · rw [if_neg hN]
        exact at_split hA (norm_ne h0)
    · rw [if_neg hb]
      apply atM_of_look
      rw [look_mid (fun e => hb e.symm)]
      split
      · rfl
      · exact look_mid (fun e => hb e.symm)
  · have hA : ∀ q ∈ M, q.1 ≠ a := fun q hq e => hk ⟨q, hq, e⟩
    have hf : M.findIdx? (fun p => p.1 == a) = none := List.findIdx?_eq_none_iff.2 fun p hp => by simpa using hA p hp
    unfold setM
    by_cases hN : normB l = [BK.none]
    · rw [if_pos hN]
      have e : delM M a = M := by unfold delM; rw [hf]
      rw [e]
      split
      · rename_i hb; subst hb; rw [atM_out hA, hN]
      · rfl
    · rw [if_neg hN]
      have e : putM M a (normB l) = M ++ [(a, normB l)] := by unfold putM; rw [hf]
      rw [e]
      split
      · rename_i hb; subst hb; exact at_split hA (norm_ne h0)
      · rename_i hb; exact atM_of_look (look_end fun e => hb e.symm)

/-! ### the document's places -/
structure POk (P : List PV) : Prop where
  asc : P.Pairwise fun p q => p.a < q.a
  ok : ∀ p ∈ P, p.l ≠ [] ∧ p.l.Nodup ∧ (cleanL p.l = true → p.n = true)
theorem POk.nil : POk [] := ⟨List.Pairwise.nil, by simp⟩
theorem put_done (q : PV) : ∀ (L acc : List PV), L.foldl (putStep q) (acc, true) = (acc ++ L.filter (fun p => decide (p.a ≠ q.a)), true) := by
  intro L
  induction L with
  | nil => intro acc; simp
  | cons x L ih =>
    intro acc
    rw [List.foldl_cons]
    unfold putStep
    by_cases h : x.a = q.a
    · rw [if_pos h]
      have := ih acc
      unfold putStep at this
      rw [this, List.filter_cons_of_neg (by simpa using h)]
    · rw [if_neg h, if_neg (by simp)]
      have := ih (acc ++ [x])
      unfold putStep at this
      rw [this, List.filter_cons_of_pos (by simpa using h)]
      simp
theorem filter_all_lt {L : List PV} {a : Int} (h : ∀ p ∈ L, a < p.a) : L.filter (fun p => decide (p.a ≠ a)) = L ∧ L.filter (fun p => decide (p.a < a)) = [] ∧ L.filter (fun p => decide (a < p.a)) = L := by
  refine ⟨List.filter_eq_self.2 fun p hp => ?_, List.filter_eq_nil_iff.2 fun p hp => ?_, List.filter_eq_self.2 fun p hp => ?_⟩
  · have := h p hp; simp; omega
  · have := h p hp; simp; omega
  · have := h p hp; simp; omega
theorem put_more (q : PV) : ∀ (L acc : List PV), L.Pairwise (fun p q => p.a < q.a) → (∀ r, r = L.foldl (putStep q) (acc, false) → (if r.2 then r.1 else r.1 ++ [q]) = acc ++ (L.filter (fun p => decide (p.a < q.a)) ++ ([q] ++ L.filter (fun p => decide (q.a < p.a))))) := by
  intro L
  induction L with
  | nil => rintro acc _ r rfl; simp
  | cons x L ih =>
    rintro acc hs r rfl
    obtain ⟨h1, h2⟩ := List.pairwise_cons.1 hs
    rw [List.foldl_cons]
    by_cases h : x.a = q.a
    · have e : putStep q (acc, false) x = (acc, false) := by unfold putStep; rw [if_pos h]
      rw [e, ih acc h2 _ rfl, List.filter_cons_of_neg (by simp; omega), List.filter_cons_of_neg (by simp; omega)]
    · by_cases hl : q.a < x.a
      · have e : putStep q (acc, false) x = (acc ++ [q] ++ [x], true) := by unfold putStep; rw [if_neg h, if_pos ⟨rfl, hl⟩]
        have ha := filter_all_lt (L := L) (a := q.a) fun p hp => by have := h1 p hp; omega
        rw [e, put_done, if_pos rfl, ha.1, List.filter_cons_of_neg (by simp; omega), List.filter_cons_of_pos (by simpa using hl), ha.2.1, ha.2.2]
        simp
      · have e : putStep q (acc, false) x = (acc ++ [x], false) := by unfold putStep; rw [if_neg h, if_neg (fun hh => hl hh.2)]
        rw [e, ih (acc ++ [x]) h2 _ rfl, List.filter_cons_of_pos (by simp; omega), List.filter_cons_of_neg (by simp; omega)]
        simp
theorem filter_ne_split : ∀ (L : List PV) (a : Int), L.Pairwise (fun p q => p.a < q.a) → L.filter (fun p => decide (p.a ≠ a)) = L.filter (fun p => decide (p.a < a)) ++ L.filter (fun p => decide (a < p.a)) := by
  intro L a
  induction L with
  | nil => intro _; rfl
  | cons x L ih =>
    intro hs
    obtain ⟨h1, h2⟩ := List.pairwise_cons.1 hs
    by_cases h : x.a = a
    · rw [List.filter_cons_of_neg (by simpa using h), List.filter_cons_of_neg (by simp; omega), List.filter_cons_of_neg (by simp; omega), ih h2]
    · by_cases hl : a < x.a
      · have ha := filter_all_lt (L := L) (a := a) fun p hp => by have := h1 p hp; omega
        rw [List.filter_cons_of_pos (by simpa using h), List.filter_cons_of_neg (by simp; omega), List.filter_cons_of_pos (by simpa using hl), ha.1, ha.2.1, ha.2.2]
        rfl
      · rw [List.filter_cons_of_pos (by simpa using h), List.filter_cons_of_pos (by simp; omega), List.filter_cons_of_neg (by simp; omega), ih h2]
        rfl
theorem putP_eq {P : List PV} {q : PV} (h : P.Pairwise fun p q => p.a < q.a) : putP P q = P.filter (fun p => decide (p.a < q.a)) ++ ((if q.l = [] then [] else [(⟨q.a, q.n || cleanL q.l, q.l⟩ : PV)]) ++ P.filter (fun p => decide (q.a < p.a))) := by
  unfold putP putTo
  dsimp only
  by_cases h0 : q.l = []
  · rw [if_pos h0, h0]
    simp only [List.length_nil, decide_true, List.nil_append]
    rw [put_done]
    simp only [if_true, List.nil_append]
    exact filter_ne_split P q.a h
  · rw [if_neg h0, show decide (q.l.length = 0) = false from by simpa using h0]
    have := put_more ⟨q.a, q.n || cleanL q.l, q.l⟩ P [] h _ rfl
    simpa using this
theorem mem_put {P : List PV} {q x : PV} (h : P.Pairwise fun p q => p.a < q.a) : x ∈ putP P q ↔ (q.l ≠ [] ∧ x = ⟨q.a, q.n || cleanL q.l, q.l⟩) ∨ (x ∈ P ∧ x.a ≠ q.a) := by
  rw [putP_eq h, List.mem_append, List.mem_append, List.mem_filter, List.mem_filter]
  simp only [decide_eq_true_eq]
  by_cases h0 : q.l = []
  · rw [if_pos h0]
    simp only [h0, List.not_mem_nil, false_or]
    constructor
    · rintro (h | h)
      · exact .inr ⟨h.1, by omega⟩
      · exact .inr ⟨h.1, by omega⟩
    · rintro (h | h)
      · exact absurd rfl h.1
      · rcases Int.lt_or_gt_of_ne h.2 with h2 | h2
        · exact .inl ⟨h.1, h2⟩
        · exact .inr ⟨h.1, h2⟩
  · rw [if_neg h0, List.mem_singleton]
    constructor
    · rintro (h | h | h)
      · exact .inr ⟨h.1, by omega⟩
      · exact .inl ⟨h0, h⟩
      · exact .inr ⟨h.1, by omega⟩
    · rintro (h | h)
      · exact .inr (.inl h.2)
      · rcases Int.lt_or_gt_of_ne h.2 with h2 | h2
        · exact .inl ⟨h.1, h2⟩
        · exact .inr (.inr ⟨h.1, h2⟩)
theorem POk.put {P : List PV} {q : PV} (h : POk P) (hn : q.l.Nodup) : POk (putP P q) where
  asc := by
    rw [putP_eq h.asc]
    refine List.pairwise_append.2 ⟨h.asc.filter _, List.pairwise_append.2 ⟨?_, h.asc.filter _, ?_⟩, ?_⟩
    · split
      · exact List.Pairwise.nil
      · exact List.pairwise_singleton _ _
    · intro x hx y hy
      have hy := (List.mem_filter.1 hy).2
      split at hx
      · cases hx
      · rw [List.mem_singleton.1 hx]
        simpa using hy
    · intro x hx y hy
      have hx := (List.mem_filter.1 hx).2
      simp only [decide_eq_true_eq] at hx
      rcases List.mem_append.1 hy with hy | hy
      · split at hy
        · cases hy
        · rw [List.mem_singleton.1 hy]; exact hx
      · have hy := (List.mem_filter.1 hy).2
        simp only [decide_eq_true_eq] at hy
        omega
  ok p hp := by
    rcases (mem_put h.asc).1 hp with ⟨h0, rfl⟩ | ⟨hp, _⟩
    · exact ⟨h0, hn, fun hc => by have hc : cleanL q.l = true := hc; simp [hc]⟩
    · exact h.ok p hp
theorem asc_inj {P : List PV} (h : P.Pairwise fun p q => p.a < q.a) {p q : PV} (hp : p ∈ P) (hq : q ∈ P) (e : p.a = q.a) : p = q := by
  induction P with
  | nil => cases hp
  | cons x P ih =>
    obtain ⟨h1, h2⟩ := List.pairwise_cons.1 h
    rcases List.mem_cons.1 hp with hpe | hp'
    · rcases List.mem_cons.1 hq with hqe | hq'
      · rw [hpe, hqe]
      · have := h1 q hq'; rw [← hpe] at this; omega
    · rcases List.mem_cons.1 hq with hqe | hq'
      · have := h1 p hp'; rw [← hqe] at this; omega
      · exact ih h2 hp' hq'
theorem atP_mem {P : List PV} (h : P.Pairwise fun p q => p.a < q.a) {p : PV} (hp : p ∈ P) : atP P p.a = p := by
  unfold atP
  cases hf : P.find? (fun q => q.a == p.a) with
  | none => exact absurd (List.find?_eq_none.1 hf p hp) (by simp)
  | some q =>
    have hq := List.mem_of_find?_eq_some hf
    have e : q.a = p.a := by simpa using List.find?_some hf
    exact asc_inj h hq hp e
theorem atP_out {P : List PV} {a : Int} (h : ∀ p ∈ P, p.a ≠ a) : atP P a = ⟨a, true, []⟩ := atP_none h
theorem atP_a (P : List PV) (a : Int) : (atP P a).a = a := by
  unfold atP
  cases hf : P.find? (fun q => q.a == a) with
  | none => rfl
  | some q => simpa using List.find?_some hf
theorem atP_put {P : List PV} {q : PV} {b : Int} (h : POk P) (hn : q.l.Nodup) : atP (putP P q) b = if b = q.a then (if q.l = [] then ⟨q.a, true, []⟩ else ⟨q.a, q.n || cleanL q.l, q.l⟩) else atP P b := by
  have hs := (h.put hn).asc
  by_cases hb : b = q.a
  · rw [if_pos hb]
    subst hb
    by_cases h0 : q.l = []
    · rw [if_pos h0]
      refine atP_out fun p hp => ?_
      rcases (mem_put h.asc).1 hp with ⟨h1, _⟩ | ⟨_, h1⟩
      · exact absurd h0 h1
      · exact h1
    · rw [if_neg h0]
      exact atP_mem hs (p := ⟨q.a, q.n || cleanL q.l, q.l⟩) ((mem_put h.asc).2 (.inl ⟨h0, rfl⟩))
  · rw [if_neg hb]
    by_cases hk : ∃ p ∈ P, p.a = b
    · obtain ⟨p, hp, rfl⟩ := hk
      rw [atP_mem h.asc hp]
      exact atP_mem hs ((mem_put h.asc).2 (.inr ⟨hp, hb⟩))
    · rw [atP_out (P := P) fun p hp e => hk ⟨p, hp, e⟩]
      refine atP_out fun p hp => ?_
      rcases (mem_put h.asc).1 hp with ⟨_, rfl⟩ | ⟨hp, _⟩
      · exact fun e => hb e.symm
      · exact fun e => hk ⟨p, hp, e⟩

/-! ### both -/
def asB (p : PV) : List BK := (if p.n then [BK.none] else []) ++ p.l.map fun c => ⟨true, c.2, c.1⟩
theorem mem_asB {p : PV} {x : BK} : x ∈ asB p ↔ (x = BK.none ∧ p.n = true) ∨ (x.some = true ∧ (x.data, x.dirty) ∈ p.l) := by
  unfold asB
  rw [List.mem_append, List.mem_map]
  constructor
  · rintro (h | ⟨c, hc, rfl⟩)
    · split at h
      · rename_i hn; exact .inl ⟨List.mem_singleton.1 h, hn⟩
      · cases h
    · exact .inr ⟨rfl, hc⟩
  · rintro (⟨rfl, h⟩ | ⟨h1, h2⟩)
    · left; rw [if_pos h]; simp
    · right
      obtain ⟨s, y, d⟩ := x
      have h1 : s = true := h1
      subst h1
      exact ⟨_, h2, rfl⟩
structure Ag (M : List (Int × List BK)) (P : List PV) : Prop where
  mok : MOk M
  pok : POk P
  same : ∀ a x, x ∈ atM M a ↔ x ∈ asB (atP P a)
theorem Ag.nil : Ag [] [] := ⟨MOk.nil, POk.nil, fun a x => by
  rw [atM_out (by simp), atP_out (by simp), mem_asB]
  simp⟩
theorem Ag.none_iff {M : List (Int × List BK)} {P : List PV} (h : Ag M P) (a : Int) : BK.none ∈ atM M a ↔ (atP P a).n = true := by
  rw [h.same, mem_asB]
  constructor
  · rintro (h | h)
    · exact h.2
    · exact absurd h.1 (by decide)
  · exact fun h => .inl ⟨rfl, h⟩
theorem Ag.some_iff {M : List (Int × List BK)} {P : List PV} (h : Ag M P) (a : Int) (y : Bool) (d : List UInt8) : (⟨true, y, d⟩ : BK) ∈ atM M a ↔ (d, y) ∈ (atP P a).l := by
  rw [h.same, mem_asB]
  constructor
  · rintro (h | h)
    · exact absurd (congrArg BK.some h.1) (by simp [BK.none])
    · exact h.2
  · exact fun h => .inr ⟨rfl, h⟩
theorem Ag.l_nodup {M : List (Int × List BK)} {P : List PV} (h : Ag M P) (a : Int) : (atP P a).l.Nodup := by
  by_cases hk : ∃ p ∈ P, p.a = a
  · obtain ⟨p, hp, rfl⟩ := hk
    rw [atP_mem h.pok.asc hp]
    exact (h.pok.ok p hp).2.1
  · rw [atP_out fun p hp e => hk ⟨p, hp, e⟩]
    exact List.Pairwise.nil
theorem has_clean {l : List BK} {q : PV} (he : ∀ x, x ∈ l ↔ x ∈ asB q) : hasClean l = cleanL q.l := by
  rw [Bool.eq_iff_iff]
  unfold hasClean cleanL
  rw [List.any_eq_true, List.any_eq_true]
  constructor
  · rintro ⟨x, hx, hc⟩
    simp only [Bool.and_eq_true, Bool.not_eq_true'] at hc
    rcases mem_asB.1 ((he x).1 hx) with h | h
    · rw [h.1] at hc; exact absurd hc.1 (by decide)
    · exact ⟨_, h.2, by simp [hc.2]⟩
  · rintro ⟨c, hc, hcc⟩
    exact ⟨⟨true, c.2, c.1⟩, (he _).2 (mem_asB.2 (.inr ⟨rfl, hc⟩)), by simpa using hcc⟩
theorem Ag.set {M : List (Int × List BK)} {P : List PV} (h : Ag M P) {a : Int} {l : List BK} {q : PV} (ha : U64 a) (hq : q.a = a) (hl : l ≠ []) (hn : q.l.Nodup) (he : ∀ x, x ∈ l ↔ x ∈ asB q) : Ag (setM M a l) (putP P q) where
  mok := h.mok.set ha (fun x hx hs => by
    rcases mem_asB.1 ((he x).1 hx) with h | h
    · exact h.1
    · rw [h.1] at hs; cases hs) hl
  pok := h.pok.put hn
  same b x := by
    rw [atM_set h.mok hl, atP_put h.pok hn, hq]
    by_cases hb : b = a
    · rw [if_pos hb, if_pos hb, mem_normB, has_clean he, he, mem_asB]
      by_cases h0 : q.l = []
      · rw [if_pos h0, mem_asB, h0]
        obtain ⟨x0, hx0⟩ := List.exists_mem_of_ne_nil l hl
        have hqn : q.n = true := by
          rcases mem_asB.1 ((he x0).1 hx0) with h | h
          · exact h.2
          · rw [h0] at h; exact absurd h.2 (by simp)
        simp [hqn, cleanL]
      · rw [if_neg h0, mem_asB]
        simp only [Bool.or_eq_true]
        constructor
        · rintro ((h | h) | h)
          · exact .inl ⟨h.1, .inl h.2⟩
          · exact .inr h
          · exact .inl ⟨h.1, .inr h.2⟩
        · rintro (⟨h1, h2 | h2⟩ | h)
          · exact .inl (.inl ⟨h1, h2⟩)
          · exact .inr ⟨h1, h2⟩
          · exact .inl (.inr h)
    · rw [if_neg hb, if_neg hb]
      exact h.same b x

/-! ### lists of blocks -/
theorem mem_withL {L : List CB} {c x : CB} : x ∈ withL L c ↔ x ∈ L ∨ x = c := by
  unfold withL
  split
  · rename_i h
    constructor
    · exact .inl
    · rintro (h2 | rfl)
      · exact h2
      · exact h
  · simp
theorem withL_nodup {L : List CB} {c : CB} (h : L.Nodup) : (withL L c).Nodup := by
  unfold withL
  split
  · exact h
  · rename_i hn
    exact List.nodup_append.2 ⟨h, by simp, fun x hx y hy e => hn (by rw [List.mem_singleton] at hy; rw [← hy, ← e]; exact hx)⟩
theorem mem_moreL {l m : List CB} {x : CB} : x ∈ moreL l m ↔ x ∈ l ∨ x ∈ m := by
  unfold moreL
  induction m generalizing l with
  | nil => simp
  | cons c m ih =>
    rw [List.foldl_cons, ih, mem_withL, List.mem_cons, or_assoc]
theorem moreL_nodup {l m : List CB} (h : l.Nodup) : (moreL l m).Nodup := by
  unfold moreL
  induction m generalizing l with
  | nil => exact h
  | cons c m ih => exact ih (withL_nodup h)
theorem mem_washedL {L : List CB} {x : CB} : x ∈ washedL L ↔ x.2 = false ∧ ∃ y, (x.1, y) ∈ L := by
  have : washedL L = moreL [] (L.map fun c => (c.1, false)) := rfl
  rw [this, mem_moreL, List.mem_map]
  constructor
  · rintro (h | ⟨c, hc, rfl⟩)
    · cases h
    · exact ⟨rfl, c.2, hc⟩
  · rintro ⟨h, y, hy⟩
    obtain ⟨d, z⟩ := x
    have h : z = false := h
    subst h
    exact .inr ⟨_, hy, rfl⟩
theorem washedL_nodup {L : List CB} : (washedL L).Nodup := moreL_nodup (l := []) List.Pairwise.nil
theorem washedL_ne {L : List CB} (h : L ≠ []) : washedL L ≠ [] := by
  obtain ⟨c, hc⟩ := List.exists_mem_of_ne_nil L h
  intro e
  have : (c.1, false) ∈ washedL L := mem_washedL.2 ⟨rfl, c.2, hc⟩
  rw [e] at this
  cases this

/-! ### what is told -/
theorem Ag.ok_at {M : List (Int × List BK)} {P : List PV} (h : Ag M P) {a : Int} {x : BK} (hx : x ∈ atM M a) (hs : x.some = false) : x = BK.none := h.mok.at_ok a x hx hs
theorem Ag.done {M : List (Int × List BK)} {P : List PV} (h : Ag M P) {o : OV} (ha : U64 o.a) : (doneM M o).1 = (doneP P o).1 ∧ Ag (doneM M o).2 (doneP P o).2 := by
  unfold doneM doneP
  by_cases h1 : o.k = 1
  · rw [if_pos (.inl h1), if_pos h1]
    refine ⟨rfl, h.set ha rfl (by simp) (by simp) fun x => ?_⟩
    rw [mem_asB]
    simp only [madeB, if_pos h1, List.mem_singleton]
    obtain ⟨s, y, d⟩ := x
    simp [BK.none]
    exact fun _ => and_comm
  rw [if_neg h1]
  by_cases h2 : o.k = 2
  · rw [if_pos (.inr (.inl h2)), if_pos h2]
    refine ⟨rfl, h.set ha rfl (by simp) (by simp) fun x => ?_⟩
    rw [mem_asB]
    simp only [madeB, if_neg h1, if_pos h2, List.mem_singleton]
    obtain ⟨s, y, d⟩ := x
    simp [BK.none]
    exact fun _ => and_comm
  rw [if_neg h2]
  by_cases h4 : o.k = 4
  · rw [if_pos (.inr (.inr h4)), if_pos h4]
    refine ⟨rfl, h.set ha rfl (by simp) (by simp) fun x => ?_⟩
    rw [mem_asB]
    simp only [madeB, if_neg h1, if_neg h2, if_pos h4, List.mem_singleton]
    simp
  rw [if_neg h4, if_neg (by omega)]
  by_cases h5 : o.k = 5
  · rw [if_pos h5, if_pos h5]
    have hm : ∀ x : BK, x ∈ ((atM M o.a).filter (·.some)).map (madeB o) ↔ x.some = true ∧ (x.data, x.dirty) ∈ washedL (atP P o.a).l := by
      intro x
      rw [List.mem_map, mem_washedL]
      constructor
      · rintro ⟨y, hy, rfl⟩
        obtain ⟨hy1, hy2⟩ := List.mem_filter.1 hy
        obtain ⟨s, yd, d⟩ := y
        have hy2 : s = true := hy2
        subst hy2
        simp only [madeB, if_neg h1, if_neg h2, if_neg h4, if_pos h5]
        exact ⟨trivial, trivial, yd, (h.some_iff _ _ _).1 hy1⟩
      · rintro ⟨hs, hd, y, hy⟩
        refine ⟨⟨true, y, x.data⟩, List.mem_filter.2 ⟨(h.some_iff _ _ _).2 hy, rfl⟩, ?_⟩
        simp only [madeB, if_neg h1, if_neg h2, if_neg h4, if_pos h5]
        obtain ⟨s, yd, d⟩ := x
        have hs : s = true := hs
        have hd : yd = false := hd
        subst hs hd
        rfl
    have h0 : ((atM M o.a).filter (·.some)).map (madeB o) = [] ↔ (atP P o.a).l.length = 0 := by
      rw [List.eq_nil_iff_forall_not_mem, List.length_eq_zero_iff]
      constructor
      · intro hh
        rw [List.eq_nil_iff_forall_not_mem]
        intro c hc
        exact hh ⟨true, false, c.1⟩ ((hm _).2 ⟨rfl, mem_washedL.2 ⟨rfl, c.2, hc⟩⟩)
      · intro hh x hx
        have := ((hm x).1 hx).2
        rw [hh] at this
        cases this
    by_cases hz : (atP P o.a).l.length = 0
    · rw [if_pos (h0.2 hz), if_pos hz]; exact ⟨rfl, h⟩
    · rw [if_neg (fun e => hz (h0.1 e)), if_neg hz]
      refine ⟨rfl, h.set ha rfl (fun e => hz (h0.1 e)) washedL_nodup fun x => ?_⟩
      rw [hm, mem_asB]
      simp
  · rw [if_neg h5, if_neg h5]; exact ⟨rfl, h⟩
theorem Ag.got {M : List (Int × List BK)} {P : List PV} (h : Ag M P) {o : OV} {d : List UInt8} {y : Bool} (ha : U64 o.a) : (gotM M o d y).1 = (if o.k = 3 then gotP P o.a d y else (false, P)).1 ∧ Ag (gotM M o d y).2 (if o.k = 3 then gotP P o.a d y else (false, P)).2 := by
  unfold gotM
  by_cases h3 : o.k = 3
  · rw [if_pos h3, if_pos h3]
    unfold gotP
    have e : (atM M o.a).any (fun x => (⟨true, y, d⟩ : BK) == x) = true ↔ (d, y) ∈ (atP P o.a).l := by
      rw [List.any_eq_true, ← h.some_iff]
      constructor
      · rintro ⟨x, hx, e⟩; rw [beq_iff_eq] at e; rw [e]; exact hx
      · intro hx; exact ⟨_, hx, by simp⟩
    by_cases hg : (d, y) ∈ (atP P o.a).l
    · rw [if_pos (e.2 hg), if_pos hg]
      refine ⟨rfl, h.set ha rfl (by simp) (by simp) fun x => ?_⟩
      rw [mem_asB]
      obtain ⟨s, y', d'⟩ := x
      simp [BK.none]
      exact fun _ => and_comm
    · rw [if_neg (fun hh => hg (e.1 hh)), if_neg hg]; exact ⟨rfl, h⟩
  · rw [if_neg h3, if_neg h3]; exact ⟨rfl, h⟩
theorem Ag.dark {M : List (Int × List BK)} {P : List PV} (h : Ag M P) {o : OV} (ha : U64 o.a) : Ag (if wrB o.k then setM M o.a (atM M o.a ++ (atM M o.a).map (madeB o)) else M) (darkP P o) := by
  have hne : atM M o.a ≠ [] := atM_len
  obtain ⟨x0, hx0⟩ := List.exists_mem_of_ne_nil _ hne
  have hnp := h.l_nodup o.a
  unfold darkP
  by_cases h1 : o.k = 1
  · rw [if_pos h1, if_pos (by simp [wrB, h1])]
    refine h.set ha (atP_a _ _) (by simp [hne]) (withL_nodup hnp) fun x => ?_
    rw [List.mem_append, List.mem_map, h.same, mem_asB, mem_asB, mem_withL]
    simp only [madeB, if_pos h1]
    constructor
    · rintro ((h | h) | ⟨_, _, rfl⟩)
      · exact .inl h
      · exact .inr ⟨h.1, .inl h.2⟩
      · exact .inr ⟨rfl, .inr rfl⟩
    · rintro (h | ⟨h, h2 | h2⟩)
      · exact .inl (.inl h)
      · exact .inl (.inr ⟨h, h2⟩)
      · right
        refine ⟨x0, hx0, ?_⟩
        obtain ⟨s, y, d⟩ := x
        simp only [Prod.mk.injEq] at h2
        obtain ⟨rfl, rfl⟩ := h2
        have h : s = true := h
        subst h
        rfl
  rw [if_neg h1]
  by_cases h2 : o.k = 2
  · rw [if_pos h2, if_pos (by simp [wrB, h2])]
    refine h.set ha (atP_a _ _) (by simp [hne]) (withL_nodup hnp) fun x => ?_
    rw [List.mem_append, List.mem_map, h.same, mem_asB, mem_asB, mem_withL]
    simp only [madeB, if_neg h1, if_pos h2]
    constructor
    · rintro ((h | h) | ⟨_, _, rfl⟩)
      · exact .inl h
      · exact .inr ⟨h.1, .inl h.2⟩
      · exact .inr ⟨rfl, .inr rfl⟩
    · rintro (h | ⟨h, h2 | h2⟩)
      · exact .inl (.inl h)
      · exact .inl (.inr ⟨h, h2⟩)
      · right
        refine ⟨x0, hx0, ?_⟩
        obtain ⟨s, y, d⟩ := x
        simp only [Prod.mk.injEq] at h2
        obtain ⟨rfl, rfl⟩ := h2
        have h : s = true := h
        subst h
        rfl
  rw [if_neg h2]
  by_cases h4 : o.k = 4
  · rw [if_pos h4, if_pos (by simp [wrB, h4])]
    refine h.set ha (atP_a _ _) (by simp [hne]) hnp fun x => ?_
    rw [List.mem_append, List.mem_map, h.same, mem_asB, mem_asB]
    simp only [madeB, if_neg h1, if_neg h2, if_pos h4]
    constructor
    · rintro ((h | h) | ⟨_, _, rfl⟩)
      · exact .inl ⟨h.1, trivial⟩
      · exact .inr h
      · exact .inl ⟨rfl, trivial⟩
    · rintro (h | h)
      · exact .inr ⟨x0, hx0, h.1.symm⟩
      · exact .inl (.inr h)
  rw [if_neg h4]
  by_cases h5 : o.k = 5
  · rw [if_pos h5, if_pos (by simp [wrB, h5])]
    refine h.set ha (atP_a _ _) (by simp [hne]) (moreL_nodup hnp) fun x => ?_
    rw [List.mem_append, List.mem_map, h.same, mem_asB, mem_asB, mem_moreL, mem_washedL]
    simp only [madeB, if_neg h1, if_neg h2, if_neg h4, if_pos h5]
    constructor
    · rintro ((h | h) | ⟨x1, hx1, rfl⟩)
      · exact .inl h
      · exact .inr ⟨h.1, .inl h.2⟩
      · obtain ⟨s, y, d⟩ := x1
        cases s with
        | false =>
          have e := h.ok_at hx1 rfl
          have hd : d = [] := congrArg BK.data e
          subst hd
          have hy : y = false := congrArg BK.dirty e
          subst hy
          exact .inl ⟨rfl, (h.none_iff _).1 hx1⟩
        | true => exact .inr ⟨rfl, .inr ⟨rfl, y, (h.some_iff _ _ _).1 hx1⟩⟩
    · rintro (h | ⟨hs, hx | ⟨hd, y, hy⟩⟩)
      · exact .inl (.inl h)
      · exact .inl (.inr ⟨hs, hx⟩)
      · right
        refine ⟨⟨true, y, x.data⟩, (h.some_iff _ _ _).2 hy, ?_⟩
        obtain ⟨s, yd, d⟩ := x
        have hs : s = true := hs
        have hd : yd = false := hd
        subst hs hd
        rfl
  rw [if_neg h5, if_neg (by simp [wrB, h1, h2, h4, h5])]
  exact h
theorem Ag.ref {M : List (Int × List BK)} {P : List PV} (h : Ag M P) {o : OV} (c : Int) (ha : U64 o.a) : (refM M o c).1 = (refP P o c).1 ∧ Ag (refM M o c).2 (refP P o c).2 := by
  have hw : wrB o.k = decide (o.k = 1 ∨ o.k = 2 ∨ o.k = 4 ∨ o.k = 5) := by
    unfold wrB
    rw [Bool.eq_iff_iff]
    simp [or_assoc]
  unfold refM refP
  by_cases h4 : c = 4
  · rw [if_pos h4, if_pos h4]; exact ⟨rfl, h.dark ha⟩
  rw [if_neg h4, if_neg h4]
  by_cases h7 : c = 7 ∨ c = 10
  · rw [if_pos h7, hw]
    by_cases hk : o.k = 1 ∨ o.k = 2 ∨ o.k = 4 ∨ o.k = 5
    · rw [if_pos (.inl ⟨by omega, hk⟩)]; exact ⟨by simpa using hk, h⟩
    · rw [if_neg (by omega), if_neg (by omega)]; exact ⟨by simpa using hk, h⟩
  rw [if_neg h7]
  by_cases h5 : c = 5
  · rw [if_pos h5, hw]
    by_cases hk : o.k = 1 ∨ o.k = 2 ∨ o.k = 4 ∨ o.k = 5
    · rw [if_pos (.inl ⟨by omega, hk⟩)]; exact ⟨by simp only [decide_eq_true hk, Bool.true_or], h⟩
    · by_cases h3 : o.k = 3
      · rw [if_pos (.inr ⟨h5, h3⟩)]; exact ⟨by simp [h3], h⟩
      · rw [if_neg (by omega), if_neg (by omega)]; exact ⟨by simp only [decide_eq_false hk, Bool.false_or]; simpa using h3, h⟩
  rw [if_neg h5, if_neg (show ¬ ((c = 7 ∨ c = 5 ∨ c = 10) ∧ (o.k = 1 ∨ o.k = 2 ∨ o.k = 4 ∨ o.k = 5) ∨ c = 5 ∧ o.k = 3) by omega)]
  by_cases h8 : c = 8
  · rw [if_pos h8]
    have e : (atM M o.a).any (fun x => BK.none == x) = true ↔ (atP P o.a).n = true := by
      rw [List.any_eq_true, ← h.none_iff]
      constructor
      · rintro ⟨x, hx, e⟩; rw [beq_iff_eq] at e; rw [e]; exact hx
      · intro hx; exact ⟨_, hx, by simp⟩
    by_cases hc : (o.k = 3 ∨ o.k = 5) ∧ (atP P o.a).n = true
    · rw [if_pos ⟨hc.1, e.2 hc.2⟩, if_pos ⟨h8, hc⟩]
      refine ⟨rfl, h.set (l := [BK.none]) (q := ⟨o.a, true, []⟩) ha rfl (by simp) (by simp) fun x => ?_⟩
      rw [mem_asB]
      simp
    · rw [if_neg (fun hh => hc ⟨hh.1, e.1 hh.2⟩), if_neg (fun hh => hc hh.2)]; exact ⟨rfl, h⟩
  · rw [if_neg h8, if_neg (fun hh => h8 hh.1)]; exact ⟨rfl, h⟩

/-! ### keys -/
theorem MOk.some_of {M : List (Int × List BK)} (h : MOk M) {p : Int × List BK} (hp : p ∈ M) : ∃ x ∈ p.2, x.some = true := by
  obtain ⟨h1, h2, h3, h4, _⟩ := h.ok p hp
  false_or_by_contra
  rename_i hno
  have hall : ∀ x ∈ p.2, x = BK.none := fun x hx => h2 x hx (by
    cases hs : x.some with
    | false => rfl
    | true => exact absurd ⟨x, hx, hs⟩ hno)
  cases hp2 : p.2 with
  | nil => exact h3 hp2
  | cons x l =>
    rw [hp2] at hall h1 h4
    have hx := hall x (by simp)
    subst hx
    cases l with
    | nil => exact h4 rfl
    | cons y l =>
      have hy := hall y (by simp)
      subst hy
      exact absurd ((List.pairwise_cons.1 h1).1 BK.none (by simp)) (by unfold BK.none; decide)
theorem Ag.keyM {M : List (Int × List BK)} {P : List PV} (h : Ag M P) (a : Int) : (∃ p ∈ M, p.1 = a) ↔ ∃ q ∈ P, q.a = a := by
  constructor
  · rintro ⟨p, hp, rfl⟩
    obtain ⟨x, hx, hs⟩ := h.mok.some_of hp
    rw [← at_mem h.mok hp] at hx
    rcases mem_asB.1 ((h.same _ _).1 hx) with hh | hh
    · rw [hh.1] at hs; cases hs
    · false_or_by_contra
      rename_i hno
      rw [atP_out (P := P) fun q hq e => hno ⟨q, hq, e⟩] at hh
      cases hh.2
  · rintro ⟨q, hq, rfl⟩
    obtain ⟨c, hc⟩ := List.exists_mem_of_ne_nil _ (h.pok.ok q hq).1
    false_or_by_contra
    rename_i hno
    have := (h.some_iff q.a c.2 c.1).2 (by rw [atP_mem h.pok.asc hq]; exact hc)
    rw [atM_out fun p hp e => hno ⟨p, hp, e⟩] at this
    exact absurd (congrArg BK.some (List.mem_singleton.1 this)) (by simp [BK.none])
theorem Ag.u64 {M : List (Int × List BK)} {P : List PV} (h : Ag M P) {q : PV} (hq : q ∈ P) : U64 q.a := by
  obtain ⟨p, hp, e⟩ := (h.keyM q.a).2 ⟨q, hq, rfl⟩
  rw [← e]
  exact h.mok.u64 p hp
theorem Ag.pair {M : List (Int × List BK)} {P : List PV} (h : Ag M P) {p : Int × List BK} {q : PV} (hp : p ∈ M) (hq : q ∈ P) (e : p.1 = q.a) (x : BK) : x ∈ p.2 ↔ x ∈ asB q := by
  rw [← at_mem h.mok hp, h.same, e, atP_mem h.pok.asc hq]

/-! ### lists of addresses -/
theorem mayD_iff {l : List BK} : mayD l = true ↔ ∃ x ∈ l, x.dirty = true := by
  unfold mayD onlyB
  rw [decide_eq_true_eq, List.length_pos_iff_exists_mem]
  constructor
  · rintro ⟨x, hx⟩; exact ⟨x, (List.mem_filter.1 hx).1, by simpa using (List.mem_filter.1 hx).2⟩
  · rintro ⟨x, hx, h⟩; exact ⟨x, List.mem_filter.2 ⟨hx, by simp [h]⟩⟩
theorem sureB_iff {l : List BK} : sureB l = true ↔ ∀ x ∈ l, x.dirty = true := by
  unfold sureB onlyB
  rw [beq_iff_eq, List.length_eq_zero_iff, List.filter_eq_nil_iff]
  constructor
  · intro h x hx; have := h x hx; simpa using this
  · intro h x hx; have := h x hx; simpa using this
theorem asB_may {q : PV} {l : List BK} (he : ∀ x, x ∈ l ↔ x ∈ asB q) : mayD l = decide (0 < (dirtyF q.l).length) := by
  rw [Bool.eq_iff_iff, mayD_iff, decide_eq_true_eq, List.length_pos_iff_exists_mem]
  unfold dirtyF
  constructor
  · rintro ⟨x, hx, hd⟩
    rcases mem_asB.1 ((he x).1 hx) with h | h
    · rw [h.1] at hd; exact absurd hd (by decide)
    · exact ⟨_, List.mem_filter.2 ⟨h.2, hd⟩⟩
  · rintro ⟨c, hc⟩
    obtain ⟨h1, h2⟩ := List.mem_filter.1 hc
    exact ⟨⟨true, c.2, c.1⟩, (he _).2 (mem_asB.2 (.inr ⟨rfl, h1⟩)), h2⟩
theorem asB_sure {q : PV} {l : List BK} (he : ∀ x, x ∈ l ↔ x ∈ asB q) : sureB l = (decide ((cleanF q.l).length = 0) && !q.n) := by
  rw [Bool.eq_iff_iff, sureB_iff, Bool.and_eq_true, decide_eq_true_eq, List.length_eq_zero_iff]
  unfold cleanF
  rw [List.filter_eq_nil_iff]
  constructor
  · intro h
    refine ⟨fun c hc => ?_, ?_⟩
    · have := h ⟨true, c.2, c.1⟩ ((he _).2 (mem_asB.2 (.inr ⟨rfl, hc⟩)))
      have this : c.2 = true := this
      simp [this]
    · cases hn : q.n with
      | false => rfl
      | true => exact absurd (h BK.none ((he _).2 (mem_asB.2 (.inl ⟨rfl, hn⟩)))) (by decide)
  · rintro ⟨h1, h2⟩ x hx
    rcases mem_asB.1 ((he x).1 hx) with h | h
    · rw [h.2] at h2; cases h2
    · have := h1 _ h.2
      simpa using this
theorem Ag.may_at {M : List (Int × List BK)} {P : List PV} (h : Ag M P) (a : Int) : mayD (atM M a) = decide (0 < (dirtyF (atP P a).l).length) := asB_may (h.same a)
theorem Ag.cond {M : List (Int × List BK)} {P : List PV} (h : Ag M P) (a0 : Int) (z : List Int) (j : Nat) : condB a0 M z j = condR P a0 z j := by
  unfold condB condR
  rw [h.may_at, Bool.eq_iff_iff]
  simp only [Bool.and_eq_true, Bool.or_eq_true, decide_eq_true_eq, Bool.not_eq_true', decide_eq_false_iff_not]
  constructor
  · rintro ⟨h1, h2, h3⟩; exact ⟨h3, by omega, h2⟩
  · rintro ⟨h3, h1, h2⟩; exact ⟨by omega, h2, h3⟩
theorem step_some {z : List Int} {q : PV} : (stepR z q).isSome = (z.contains q.a || !(decide ((cleanF q.l).length = 0) && !q.n)) := by
  unfold stepR
  cases hc : z.contains q.a with
  | true => simp
  | false =>
    by_cases hh : (cleanF q.l).length = 0 ∧ q.n = false
    · simp [hh]
    · rw [if_neg (by simp), if_neg hh]
      simp only [Option.isSome_some, Bool.false_or]
      symm
      rw [Bool.not_eq_true']
      cases hn : q.n with
      | true => simp
      | false =>
        have : ¬ (cleanF q.l).length = 0 := fun e => hh ⟨e, hn⟩
        simp only [decide_eq_false this, Bool.false_and]
theorem Ag.pass {M : List (Int × List BK)} {P : List PV} (h : Ag M P) {p : Int × List BK} {q : PV} (hp : p ∈ M) (hq : q ∈ P) (e : p.1 = q.a) (z : List Int) : passB z p = (stepR z q).isSome := by
  rw [step_some]
  unfold passB
  rw [e, asB_sure (h.pair hp hq e)]
theorem Ag.ask {M : List (Int × List BK)} {P : List PV} (h : Ag M P) (o : OV) (z : List Int) : askB M o z = (decide (o.k = 6) && askR P o z) := by
  unfold askB askR
  rw [Bool.and_assoc]
  congr 1
  congr 1
  congr 1
  · rw [Bool.eq_iff_iff, List.all_eq_true, List.all_eq_true]
    exact ⟨fun hh j hj => by rw [← h.cond]; exact hh j hj, fun hh j hj => by rw [h.cond]; exact hh j hj⟩
  · rw [Bool.eq_iff_iff, List.all_eq_true, List.all_eq_true]
    constructor
    · intro hh q hq
      obtain ⟨p, hp, e⟩ := (h.keyM q.a).2 ⟨q, hq, rfl⟩
      have := hh p hp
      rw [h.pass hp hq e, e] at this
      exact this
    · intro hh p hp
      obtain ⟨q, hq, e⟩ := (h.keyM p.1).1 ⟨p, hp, rfl⟩
      have := hh q hq
      rw [h.pass hp hq e.symm, ← e]
      exact this
theorem step_only {z : List Int} {q q' : PV} (h : stepR z q = some q') (x : BK) : (x ∈ asB q ∧ (x.dirty == z.contains q.a) = true) ↔ x ∈ asB q' := by
  unfold stepR at h
  rw [mem_asB, mem_asB]
  cases hc : z.contains q.a with
  | true =>
    rw [if_pos hc] at h
    injection h with h
    subst h
    unfold dirtyF
    simp only [List.mem_filter, beq_iff_eq]
    constructor
    · rintro ⟨h | h, h2⟩
      · rw [h.1] at h2; exact absurd h2 (by decide)
      · exact .inr ⟨h.1, h.2, h2⟩
    · rintro (h | ⟨h1, h2, h3⟩)
      · exact absurd h.2 (by simp)
      · exact ⟨.inr ⟨h1, h2⟩, h3⟩
  | false =>
    rw [if_neg (by rw [hc]; decide)] at h
    split at h
    · cases h
    · injection h with h
      subst h
      unfold cleanF
      simp only [List.mem_filter, beq_iff_eq, Bool.not_eq_true']
      constructor
      · rintro ⟨h | h, h2⟩
        · exact .inl h
        · exact .inr ⟨h.1, h.2, h2⟩
      · rintro (h | ⟨h1, h2, h3⟩)
        · exact ⟨.inl h, by rw [h.1]; rfl⟩
        · exact ⟨.inr ⟨h1, h2⟩, h3⟩
theorem step_a {z : List Int} {q q' : PV} (h : stepR z q = some q') : q'.a = q.a ∧ ∀ c ∈ q'.l, c ∈ q.l := by
  unfold stepR at h
  split at h
  · injection h with h; subst h; exact ⟨rfl, fun c hc => (List.mem_filter.1 hc).1⟩
  · split at h
    · cases h
    · injection h with h; subst h; exact ⟨rfl, fun c hc => (List.mem_filter.1 hc).1⟩
theorem step_nodup {z : List Int} {q q' : PV} (h : stepR z q = some q') (hn : q.l.Nodup) : q'.l.Nodup := by
  unfold stepR at h
  split at h
  · injection h with h; subst h; exact hn.filter _
  · split at h
    · cases h
    · injection h with h; subst h; exact hn.filter _
theorem Ag.span {M : List (Int × List BK)} (hM : MOk M) {a0 : Int} {z : List Int} (hc : ∀ j, j < z.length → condB a0 M z j = true) : ∀ (Q : List PV) (J : List Int) (P0 : List PV), Ag (spanM M J z) P0 →
    (∀ q ∈ Q, (∃ p ∈ M, p.1 = q.a ∧ passB z p = true) ∧ q.a ∉ J ∧ (stepR z q).isSome = true ∧ q.l.Nodup ∧ atP P0 q.a = q) → (Q.map (·.a)).Nodup →
    Ag (spanM M (J ++ Q.map (·.a)) z) ((Q.filterMap (stepR z)).foldl putP P0) := by
  intro Q
  induction Q with
  | nil => intro J P0 h _ _; simpa using h
  | cons q Q ih =>
    intro J P0 h hQ hn
    obtain ⟨⟨p, hp, hpa, hpass⟩, hJ, hs, hnd, hat⟩ := hQ q (by simp)
    obtain ⟨q', hq'⟩ := Option.isSome_iff_exists.1 hs
    have hq'a := (step_a hq').1
    have hn2 := List.nodup_cons.1 (show (q.a :: Q.map (·.a)).Nodup from hn)
    rw [List.filterMap_cons, hq']
    dsimp only
    rw [List.foldl_cons]
    have e : J ++ (q :: Q).map (·.a) = (J ++ [q.a]) ++ Q.map (·.a) := by simp
    rw [e]
    have hstep := span_step hM hp (z := z) (hpa ▸ hJ : p.1 ∉ J)
    rw [hpa] at hstep
    have hset : Ag (spanM M (J ++ [q.a]) z) (putP P0 q') := by
      rw [← hstep]
      refine h.set (hpa ▸ hM.u64 p hp) hq'a ?_ (step_nodup hq' hnd) fun x => ?_
      · have := pass_left hM hc hp hpass
        rw [← hpa, span_at hM hp (hpa ▸ hJ : p.1 ∉ J)]
        exact this
      · rw [← step_only hq' x]
        unfold onlyB
        rw [List.mem_filter, h.same, hat]
    refine ih _ _ hset (fun r hr => ?_) hn2.2
    obtain ⟨h1, h2, h3, h4, h5⟩ := hQ r (by simp [hr])
    have hne : r.a ≠ q.a := fun e => hn2.1 (e ▸ List.mem_map.2 ⟨r, hr, rfl⟩)
    refine ⟨h1, fun hh => ?_, h3, h4, ?_⟩
    · rcases List.mem_append.1 hh with hh | hh
      · exact h2 hh
      · exact hne (List.mem_singleton.1 hh)
    · rw [atP_put h.pok (step_nodup hq' hnd), hq'a, if_neg hne]
      exact h5
theorem asc_nodup {P : List PV} (h : P.Pairwise fun p q => p.a < q.a) : (P.map (·.a)).Nodup := by
  unfold List.Nodup
  rw [List.pairwise_map]
  exact h.imp fun h => by omega
theorem fmap_same {α β : Type} {f g : α → Option β} : ∀ {l : List α}, (∀ x ∈ l, f x = g x) → l.filterMap f = l.filterMap g
  | [], _ => rfl
  | x :: l, h => by rw [List.filterMap_cons, List.filterMap_cons, h x (by simp), fmap_same (l := l) fun y hy => h y (by simp [hy])]
theorem Ag.list {M : List (Int × List BK)} {P : List PV} (h : Ag M P) (o : OV) (z : List Int) : (listM M o z).1 = (if o.k = 6 then listP P o z else (false, P)).1 ∧ Ag (listM M o z).2 (if o.k = 6 then listP P o z else (false, P)).2 := by
  by_cases h6 : o.k = 6
  · rw [if_pos h6]
    unfold listM listP
    rw [h.ask, decide_eq_true h6, Bool.true_and]
    cases hk : askR P o z with
    | false => exact ⟨rfl, h⟩
    | true =>
      refine ⟨rfl, ?_⟩
      simp only [if_true]
      have hk2 : askB M o z = true := by rw [h.ask, hk, decide_eq_true h6]; rfl
      have hk1 := hk
      unfold askB at hk2
      unfold askR at hk1
      simp only [Bool.and_eq_true, List.all_eq_true, List.mem_range, decide_eq_true_eq] at hk1 hk2
      have hQ : ∀ q ∈ P.filter (fun p => withinB o.a o.m z p.a), q ∈ P ∧ withinB o.a o.m z q.a = true := fun q hq => List.mem_filter.1 hq
      have key := Ag.span h.mok (a0 := o.a) (z := z) hk2.2.1 (P.filter fun p => withinB o.a o.m z p.a) [] P (by
        have : spanM M [] z = M := by unfold spanM; simp
        rw [this]; exact h) (fun q hq => by
          obtain ⟨h1, h2⟩ := hQ q hq
          obtain ⟨p, hp, e⟩ := (h.keyM q.a).2 ⟨q, h1, rfl⟩
          have h3 := hk2.2.2 p hp
          rw [e, h2] at h3
          have h4 := hk1.2.2 q h1
          rw [h2] at h4
          exact ⟨⟨p, hp, e, by simpa using h3⟩, by simp, by simpa using h4, (h.pok.ok q h1).2.1, atP_mem h.pok.asc h1⟩)
        (asc_nodup (h.pok.asc.filter _))
      have e : spanM M ([] ++ (P.filter fun p => withinB o.a o.m z p.a).map (·.a)) z = M.filterMap fun p => if withinB o.a o.m z p.1 then keepB z p else some p := by
        unfold spanM
        refine fmap_same fun p hp => ?_
        have : (([] : List Int) ++ (P.filter fun (p : PV) => withinB o.a o.m z p.a).map (fun (x : PV) => x.a)).contains p.1 = withinB o.a o.m z p.1 := by
          rw [Bool.eq_iff_iff, List.contains_iff_mem, List.nil_append, List.mem_map]
          constructor
          · rintro ⟨q, hq, e⟩; rw [← e]; exact (hQ q hq).2
          · intro hw
            obtain ⟨q, hq, e⟩ := (h.keyM p.1).1 ⟨p, hp, rfl⟩
            exact ⟨q, List.mem_filter.2 ⟨hq, by rw [e]; exact hw⟩, e⟩
        rw [this]
      rw [e] at key
      exact key
  · rw [if_neg h6, list_no6 h6]
    exact ⟨rfl, h⟩
theorem rep_kind {r : RV} (h : r.fits = true) : r.k = 1 ∨ r.k = 2 ∨ r.k = 3 ∨ r.k = 4 := by
  unfold RV.fits repB at h
  split at h
  · omega
  · split at h
    · omega
    · split at h
      · omega
      · split at h
        · omega
        · cases h
theorem Ag.take {M : List (Int × List BK)} {P : List PV} (h : Ag M P) (size : Int) {o : OV} (r : RV) (ha : U64 o.a) : (takeF size M o r).1 = (takeP size P o r).1 ∧ Ag (takeF size M o r).2 (takeP size P o r).2 := by
  unfold takeF takeP
  by_cases hf : r.fits = false
  · rw [if_pos hf, if_pos hf]; exact ⟨rfl, h⟩
  rw [if_neg hf, if_neg hf]
  split
  · exact ⟨rfl, h⟩
  · rcases rep_kind (by simpa using hf) with h1 | h1 | h1 | h1
    · rw [if_pos h1, if_neg (show ¬ r.k = 4 by omega), if_pos h1]; exact h.done ha
    · rw [if_neg (show ¬ r.k = 1 by omega), if_pos h1, if_neg (show ¬ r.k = 4 by omega), if_neg (show ¬ r.k = 1 by omega), if_pos h1]; exact h.got ha
    · rw [if_neg (show ¬ r.k = 1 by omega), if_neg (show ¬ r.k = 2 by omega), if_pos h1, if_neg (show ¬ r.k = 4 by omega), if_neg (show ¬ r.k = 1 by omega), if_neg (show ¬ r.k = 2 by omega)]; exact h.list o r.z
    · rw [if_neg (show ¬ r.k = 1 by omega), if_neg (show ¬ r.k = 2 by omega), if_neg (show ¬ r.k = 3 by omega), if_pos h1]; exact h.ref r.c ha

/-! ### the lists that are told -/
theorem asc_srt {l : List Int} (h : l.Pairwise (· < ·)) : srt l = l :=
  List.Perm.eq_of_pairwise (le := (· ≤ ·)) (fun x y _ _ h1 h2 => Int.le_antisymm h1 h2) (srt_sorted l) (h.imp fun h => Int.le_of_lt h) (List.mergeSort_perm l _)
theorem Ag.addrs {M : List (Int × List BK)} {P : List PV} (h : Ag M P) {f : List BK → Bool} {g : PV → Bool} (hfg : ∀ p ∈ M, ∀ q ∈ P, p.1 = q.a → f p.2 = g q) : addrsM M f = (P.filter g).map (·.a) := by
  unfold addrsM
  have hs : ((P.filter g).map (·.a)).Pairwise (· < ·) := by
    rw [List.pairwise_map]
    exact h.pok.asc.filter _
  have hn : ((P.filter g).map (·.a)).Nodup := asc_nodup (h.pok.asc.filter _)
  have hn2 : ((M.filter fun p => f p.2).map (·.1)).Nodup := h.mok.nodup.sublist (List.Sublist.map _ List.filter_sublist)
  rw [srt_perm ((List.perm_ext_iff_of_nodup hn2 hn).2 fun a => ?_), asc_srt hs]
  rw [List.mem_map, List.mem_map]
  constructor
  · rintro ⟨p, hp, rfl⟩
    obtain ⟨hp, hf⟩ := List.mem_filter.1 hp
    obtain ⟨q, hq, e⟩ := (h.keyM p.1).1 ⟨p, hp, rfl⟩
    exact ⟨q, List.mem_filter.2 ⟨hq, by rw [← hfg p hp q hq e.symm]; exact hf⟩, e⟩
  · rintro ⟨q, hq, rfl⟩
    obtain ⟨hq, hf⟩ := List.mem_filter.1 hq
    obtain ⟨p, hp, e⟩ := (h.keyM q.a).2 ⟨q, hq, rfl⟩
    exact ⟨p, List.mem_filter.2 ⟨hp, by rw [hfg p hp q hq e]; exact hf⟩, e⟩
theorem Ag.addrs_some {M : List (Int × List BK)} {P : List PV} (h : Ag M P) : addrsM M someB = P.map (·.a) := by
  rw [h.addrs (g := fun _ => true) fun p hp q hq e => ?_]
  · rw [List.filter_eq_self.2 fun _ _ => rfl]
  · obtain ⟨x, hx, hs⟩ := h.mok.some_of hp
    exact List.any_eq_true.2 ⟨x, hx, hs⟩
theorem Ag.addrs_may {M : List (Int × List BK)} {P : List PV} (h : Ag M P) : addrsM M mayD = mayP P := h.addrs fun p hp q hq e => asB_may (h.pair hp hq e)
theorem Ag.addrs_sure {M : List (Int × List BK)} {P : List PV} (h : Ag M P) : addrsM M sureB = mustP P := by
  refine h.addrs fun p hp q hq e => ?_
  rw [asB_sure (h.pair hp hq e)]
  cases hc : (decide ((cleanF q.l).length = 0) && !q.n) with
  | false => simp
  | true =>
    simp only [Bool.and_true]
    symm
    rw [decide_eq_true_eq, List.length_pos_iff_exists_mem]
    obtain ⟨c, hcl⟩ := List.exists_mem_of_ne_nil _ (h.pok.ok q hq).1
    simp only [Bool.and_eq_true, decide_eq_true_eq, List.length_eq_zero_iff] at hc
    have h1 := hc.1
    unfold cleanF at h1
    rw [List.filter_eq_nil_iff] at h1
    exact ⟨c, List.mem_filter.2 ⟨hcl, by simpa using h1 c hcl⟩⟩

/-! ### bounds -/
def Bd (A : List Int) (D : List (List UInt8)) (P : List PV) : Prop := ∀ p ∈ P, p.a ∈ A ∧ ∀ c ∈ p.l, c.1 ∈ D
theorem nodup_sub_len {α : Type} [DecidableEq α] : ∀ (l m : List α), l.Nodup → (∀ x ∈ l, x ∈ m) → l.length ≤ m.length := by
  intro l
  induction l with
  | nil => intro m _ _; simp
  | cons x l ih =>
    intro m hn hm
    obtain ⟨h1, h2⟩ := List.nodup_cons.1 hn
    have hx := hm x (by simp)
    have := ih (m.erase x) h2 fun y hy => (List.mem_erase_of_ne (fun e => h1 (by rw [← e]; exact hy))).2 (hm y (by simp [hy]))
    rw [List.length_erase_of_mem hx] at this
    have : 0 < m.length := List.length_pos_of_mem hx
    rw [List.length_cons]
    omega
theorem Bd.put {A : List Int} {D : List (List UInt8)} {P : List PV} {q : PV} (h : Bd A D P) (hP : P.Pairwise fun p q => p.a < q.a) (hq : q.a ∈ A) (hl : ∀ c ∈ q.l, c.1 ∈ D) : Bd A D (putP P q) := by
  intro p hp
  rcases (mem_put hP).1 hp with ⟨_, rfl⟩ | ⟨hp, _⟩
  · exact ⟨hq, hl⟩
  · exact h p hp
theorem Bd.at_ {A : List Int} {D : List (List UInt8)} {P : List PV} (h : Bd A D P) (a : Int) : ∀ c ∈ (atP P a).l, c.1 ∈ D := by
  unfold atP
  cases hf : P.find? (fun q => q.a == a) with
  | none => intro c hc; cases hc
  | some q => exact (h q (List.mem_of_find?_eq_some hf)).2
theorem Bd.more {A A' : List Int} {D D' : List (List UInt8)} {P : List PV} (h : Bd A D P) (hA : ∀ a ∈ A, a ∈ A') (hD : ∀ d ∈ D, d ∈ D') : Bd A' D' P := fun p hp => ⟨hA _ (h p hp).1, fun c hc => hD _ ((h p hp).2 c hc)⟩
theorem Bd.fold {A : List Int} {D : List (List UInt8)} : ∀ (S P : List PV), Bd A D P → POk P → (∀ q ∈ S, q.a ∈ A ∧ q.l.Nodup ∧ ∀ c ∈ q.l, c.1 ∈ D) → Bd A D (S.foldl putP P) := by
  intro S
  induction S with
  | nil => intro P h _ _; exact h
  | cons q S ih =>
    intro P h hP hS
    obtain ⟨h1, h2, h3⟩ := hS q (by simp)
    exact ih _ (h.put hP.asc h1 h3) (hP.put h2) fun r hr => hS r (by simp [hr])
theorem Bd.take {A : List Int} {D : List (List UInt8)} {P : List PV} (h : Bd A D P) (hP : POk P) (size : Int) (o : OV) (r : RV) : Bd (o.a :: A) (o.d :: D) (takeP size P o r).2 := by
  have h0 : Bd (o.a :: A) (o.d :: D) P := h.more (fun a ha => by simp [ha]) (fun d hd => by simp [hd])
  have hat : ∀ c ∈ (atP P o.a).l, c.1 ∈ o.d :: D := h0.at_ o.a
  have hput : ∀ (a : Int) (n : Bool) (l : List CB), a = o.a → (∀ c ∈ l, c.1 ∈ o.d :: D) → Bd (o.a :: A) (o.d :: D) (putP P ⟨a, n, l⟩) := fun a n l ha hl => h0.put hP.asc (by rw [ha]; simp) hl
  have hwash : ∀ c ∈ washedL (atP P o.a).l, c.1 ∈ o.d :: D := fun c hc => by
    obtain ⟨_, y, hy⟩ := mem_washedL.1 hc
    exact hat (c.1, y) hy
  unfold takeP
  split
  · exact h0
  · split
    · exact h0
    · split
      · unfold refP
        split
        · unfold darkP
          split
          · exact hput _ _ _ (atP_a _ _) fun c hc => by
              rcases mem_withL.1 hc with hc | rfl
              · exact hat c hc
              · simp
          · split
            · exact hput _ _ _ (atP_a _ _) fun c hc => by
                rcases mem_withL.1 hc with hc | rfl
                · exact hat c hc
                · simp
            · split
              · exact hput _ _ _ (atP_a _ _) hat
              · split
                · exact hput _ _ _ (atP_a _ _) fun c hc => by
                    rcases mem_moreL.1 hc with hc | hc
                    · exact hat c hc
                    · exact hwash c hc
                · exact h0
        · split
          · exact h0
          · split
            · exact hput _ _ _ rfl (by simp)
            · exact h0
      · split
        · unfold doneP
          split
          · exact hput _ _ _ rfl (by simp)
          · split
            · exact hput _ _ _ rfl (by simp)
            · split
              · exact hput _ _ _ rfl (by simp)
              · split
                · split
                  · exact h0
                  · exact hput _ _ _ rfl hwash
                · exact h0
        · split
          · split
            · unfold gotP
              split
              · rename_i hm
                exact hput _ _ _ rfl fun c hc => by rw [List.mem_singleton.1 hc]; exact hat _ hm
              · exact h0
            · exact h0
          · split
            · unfold listP
              split
              · refine Bd.fold _ _ h0 hP fun q hq => ?_
                obtain ⟨p, hp, hs⟩ := List.mem_filterMap.1 hq
                have hp := (List.mem_filter.1 hp).1
                obtain ⟨e1, e2⟩ := step_a hs
                exact ⟨by rw [e1]; exact (h0 p hp).1, step_nodup hs (hP.ok p hp).2.1, fun c hc => (h0 p hp).2 c (e2 c hc)⟩
              · exact h0
            · exact h0
theorem Bd.len {A : List Int} {D : List (List UInt8)} {P : List PV} (h : Bd A D P) (hP : POk P) : P.length ≤ A.length ∧ ∀ p ∈ P, p.l.length ≤ 2 * D.length := by
  constructor
  · have := nodup_sub_len _ A (asc_nodup hP.asc) fun a ha => by
      obtain ⟨p, hp, rfl⟩ := List.mem_map.1 ha
      exact (h p hp).1
    simpa using this
  · intro p hp
    have := nodup_sub_len p.l (D.map (fun d => (d, true)) ++ D.map fun d => (d, false)) (hP.ok p hp).2.1 fun c hc => by
      have hd := (h p hp).2 c hc
      rw [List.mem_append, List.mem_map, List.mem_map]
      obtain ⟨d, y⟩ := c
      cases y
      · exact .inr ⟨d, hd, rfl⟩
      · exact .inl ⟨d, hd, rfl⟩
    rw [List.length_append, List.length_map, List.length_map] at this
    omega
theorem binc_nodup {l : List BK} (h : BInc l) : l.Nodup := h.imp fun {x y} hxy e => by subst e; exact bless_irrefl _ hxy
theorem Ag.lenM {M : List (Int × List BK)} {P : List PV} (h : Ag M P) {A : List Int} {D : List (List UInt8)} (hb : Bd A D P) : M.length ≤ A.length ∧ ∀ p ∈ M, p.2.length ≤ 2 * D.length + 1 := by
  constructor
  · have := nodup_sub_len _ A h.mok.nodup fun a ha => by
      obtain ⟨p, hp, rfl⟩ := List.mem_map.1 ha
      obtain ⟨q, hq, e⟩ := (h.keyM p.1).1 ⟨p, hp, rfl⟩
      rw [← e]; exact (hb q hq).1
    simpa using this
  · intro p hp
    obtain ⟨q, hq, e⟩ := (h.keyM p.1).1 ⟨p, hp, rfl⟩
    have h1 := nodup_sub_len p.2 (asB q) (binc_nodup (h.mok.ok p hp).1) fun x hx => (h.pair hp hq e.symm x).1 hx
    have h2 := (hb.len h.pok).2 q hq
    have h3 : (asB q).length ≤ 1 + q.l.length := by
      unfold asB
      rw [List.length_append, List.length_map]
      split <;> simp
    omega
theorem Bd.small {A : List Int} {D : List (List UInt8)} {P : List PV} (h : Bd A D P) (hP : POk P) (hA : A.length ≤ 100) (hD : D.length ≤ 100) (hDl : ∀ d ∈ D, d.length ≤ 1000) : SmP P :=
  ⟨by have := (h.len hP).1; omega, fun p hp => ⟨by have := (h.len hP).2 p hp; omega, fun c hc => hDl _ ((h p hp).2 c hc)⟩⟩
end Go.Proofs.Ytinfbpldgobmfaa
