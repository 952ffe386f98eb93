/-
  Blocks of package ideal: their order; sorted lists; lists without twins.
-/
import Derived.Test.YtinfbpldgobmfaaBkS
namespace Go.Proofs.Ytinfbpldgobmfaa
open Go.RowKit
set_option linter.unusedSimpArgs false
set_option linter.unusedVariables false

/-- goes ahead -/
def bless (x y : BK) : Prop := rankB x < rankB y ∨ (rankB x = rankB y ∧ x.data < y.data)
instance (x y : BK) : Decidable (bless x y) := by unfold bless; infer_instance
theorem cmpS_lt (x y : List UInt8) : cmpS x y < 0 ↔ x < y := by
  unfold cmpS
  rw [Go.Proofs.bytesLess_eq]
  by_cases h : x < y
  · simp [h]
  · rw [if_neg (by simpa using h)]
    by_cases h2 : x = y <;> simp [h, h2]
theorem cmpN_neg {x y : Int} (h : x < y) : cmpN x y = -1 := by unfold cmpN; rw [if_pos h]
theorem cmpN_zero (x : Int) : cmpN x x = 0 := by unfold cmpN; simp
theorem cmpN_pos {x y : Int} (h : y < x) : cmpN x y = 1 := by unfold cmpN; rw [if_neg (by omega), if_pos h]
theorem cmpB_lt (x y : BK) : cmpB x y < 0 ↔ bless x y := by
  unfold cmpB bless orI
  rcases Int.lt_trichotomy (rankB x) (rankB y) with h | h | h
  · rw [cmpN_neg h]; simp [h]
  · rw [h, cmpN_zero]; simp [cmpS_lt]
  · rw [cmpN_pos h]; simp; omega
theorem ltB (x y : BK) : ltOf cmpB x y = decide (bless x y) := by
  unfold ltOf
  exact decide_eq_decide.2 (cmpB_lt x y)
theorem bless_irrefl (x : BK) : ¬ bless x x := by
  rintro (h | ⟨_, h⟩)
  · omega
  · exact List.lt_irrefl _ h
theorem bless_trans {x y z : BK} (h1 : bless x y) (h2 : bless y z) : bless x z := by
  rcases h1 with h1 | ⟨h1, k1⟩ <;> rcases h2 with h2 | ⟨h2, k2⟩
  · exact .inl (by omega)
  · exact .inl (by omega)
  · exact .inl (by omega)
  · exact .inr ⟨by omega, List.lt_trans k1 k2⟩
theorem bless_ntrans {x y z : BK} (h1 : ¬ bless x y) (h2 : ¬ bless y z) : ¬ bless x z := by
  rintro (h | ⟨h, k⟩)
  · unfold bless at h1 h2
    have a1 : ¬ rankB x < rankB y := fun h => h1 (.inl h)
    have a2 : ¬ rankB y < rankB z := fun h => h2 (.inl h)
    omega
  · unfold bless at h1 h2
    have a1 : ¬ rankB x < rankB y := fun h => h1 (.inl h)
    have a2 : ¬ rankB y < rankB z := fun h => h2 (.inl h)
    have e1 : rankB x = rankB y := by omega
    have e2 : rankB y = rankB z := by omega
    have b1 : ¬ x.data < y.data := fun h => h1 (.inr ⟨e1, h⟩)
    have b2 : ¬ y.data < z.data := fun h => h2 (.inr ⟨e2, h⟩)
    rw [List.not_lt] at b1 b2
    exact absurd k (List.not_lt.2 (List.le_trans b2 b1))
/-- a block that may be: what is none has nothing else -/
def BK.Ok (x : BK) : Prop := x.some = false → x = BK.none
theorem bless_total {x y : BK} (hx : x.Ok) (hy : y.Ok) (h1 : ¬ bless x y) (h2 : ¬ bless y x) : x = y := by
  unfold bless at h1 h2
  have er : rankB x = rankB y := by
    have a1 : ¬ rankB x < rankB y := fun h => h1 (.inl h)
    have a2 : ¬ rankB y < rankB x := fun h => h2 (.inl h)
    omega
  have b1 : ¬ x.data < y.data := fun h => h1 (.inr ⟨er, h⟩)
  have b2 : ¬ y.data < x.data := fun h => h2 (.inr ⟨er.symm, h⟩)
  rw [List.not_lt] at b1 b2
  have hd : x.data = y.data := List.le_antisymm b2 b1
  obtain ⟨x0, x1, x2⟩ := x
  obtain ⟨y0, y1, y2⟩ := y
  unfold BK.Ok at hx hy
  simp only at hd hx hy
  subst hd
  cases x0 <;> cases y0 <;> cases x1 <;> cases y1 <;> simp_all [rankB, BK.none]
theorem swoBk : Go.Sort.SWO (ltOf cmpB) where
  irrefl x := by rw [ltB]; exact decide_eq_false (bless_irrefl x)
  trans x y z h1 h2 := by rw [ltB] at *; exact decide_eq_true (bless_trans (of_decide_eq_true h1) (of_decide_eq_true h2))
  ntrans x y z h1 h2 := by rw [ltB] at *; exact decide_eq_false (bless_ntrans (of_decide_eq_false h1) (of_decide_eq_false h2))

/-- none goes ahead of one before it -/
abbrev BAsc (l : List BK) : Prop := l.Pairwise fun x y => ¬ bless y x
/-- each goes ahead of all behind it -/
abbrev BInc (l : List BK) : Prop := l.Pairwise bless
theorem binc_ext {a b : List BK} (ha : BInc a) (hb : BInc b) (h : ∀ e, e ∈ a ↔ e ∈ b) : a = b := by
  induction a generalizing b with
  | nil =>
    cases b with
    | nil => rfl
    | cons y ys => exact absurd ((h y).2 (by simp)) (by simp)
  | cons x xs ih =>
    cases b with
    | nil => exact absurd ((h x).1 (by simp)) (by simp)
    | cons y ys =>
      obtain ⟨ha1, ha2⟩ := List.pairwise_cons.1 ha
      obtain ⟨hb1, hb2⟩ := List.pairwise_cons.1 hb
      have hxy : x = y := by
        rcases List.mem_cons.1 ((h x).1 (by simp)) with h1 | h1
        · exact h1
        · rcases List.mem_cons.1 ((h y).2 (by simp)) with h2 | h2
          · exact h2.symm
          · exact absurd (bless_trans (hb1 x h1) (ha1 y h2)) (bless_irrefl y)
      subst hxy
      congr 1
      refine ih ha2 hb2 fun e => ⟨fun he => ?_, fun he => ?_⟩
      · rcases List.mem_cons.1 ((h e).1 (List.mem_cons_of_mem _ he)) with rfl | h1
        · exact absurd (ha1 e he) (bless_irrefl e)
        · exact h1
      · rcases List.mem_cons.1 ((h e).2 (List.mem_cons_of_mem _ he)) with rfl | h1
        · exact absurd (hb1 e he) (bless_irrefl e)
        · exact h1

set_option maxRecDepth 20000 in
theorem idsort_any (v : Value) (es : List BK) (H Fr : HL) (w : World) (hv : IsBks v es H) (hH : Holds w (H ++ Fr)) (hsm : es.length ≤ 1000000) :
    Calls Try.prog 65 #[v, .func (.func 66) #[] #[]] w (RetUpd (fun H' => ∃ es' : List BK, es'.Perm es ∧ BAsc es' ∧ IsBks v es' H') (.tuple #[]) w Fr) := by
  unfold IsBks at hv
  rcases hv with ⟨hl, ⟨rfl, h0, rfl⟩ | ⟨g, cap, cur, fz, rfl, hn, hc, hs, ht, hf, rfl⟩⟩
  · obtain rfl : es = [] := List.length_eq_zero_iff.1 h0
    refine Calls.mono (AnyF.slices_SortFunc_none layIdSort none 0 (.func (.func 66) #[] #[]) w) ?_
    rintro e w' ⟨rfl, rfl⟩
    exact ⟨rfl, [], ⟨[], List.Perm.nil, List.Pairwise.nil, IsBks.nil⟩, hH, Grew.refl _⟩
  · have eg : ∀ args w, (callFunc 66 args).run Try.prog w = .ok (.enter 66 args) w := enters_of Try.func66 (by kernel_rfl) rfl
    have hfl := flatK_bkC es
    have hHK : Go.Sort.HoldsK BK.cells 3 w g 0 es.toArray := by
      unfold Go.Sort.HoldsK
      rw [hfl]
      intro j hj
      have hj' : j < (bkC es).length := by simpa using hj
      refine ⟨?_, ?_⟩
      · rw [Nat.zero_add, hH.cell (t := 71) (cs := cur) (fz := fz) (by simp)]
        have h1 : (cur.toList.take (es.length * 3))[j]? = (bkC es)[j]? := by rw [ht]
        rw [List.getElem?_take, if_pos (by rw [bkC_len] at hj'; exact hj')] at h1
        rw [← Array.getElem?_toList, h1, List.getElem?_eq_getElem hj', getElem!_pos _ j hj]
        rfl
      · rw [Nat.zero_add]
        exact frozen_of_block (t := 71) (cs := cur) (fz := fz) (hH.get (by simp)) hf (by rw [bkC_len] at hj'; omega)
    have hcon := AnyQ.slices_SortFunc layIdSort 3 Try.isAgg71 Try.sizeOf71 BK.cells (fun _ => rfl) (fun x v hv => by simp [BK.cells, strB] at hv; rcases hv with rfl | rfl | rfl <;> rfl) cmpB swoBk 66 #[] g 0 cap es.toArray w eg
      (fun _ _ _ _ x y => idless_any x y _) hHK (hH.lt (p := (g, .cells cur 71 fz)) (by simp)) (by simp; omega)
    refine Calls.mono hcon ?_
    rintro e w' ⟨rfl, d', n, os, hp, hso, rfl⟩
    unfold sortWorldK Go.Sort.putRowK
    have hds : d'.size = es.length := by have := hp.1; simpa using this
    have hperm : d'.toList.Perm es := by
      have h := hp.2.2
      simp only [List.size_toArray] at h
      rw [← hds] at h
      have h' : d'.toList.Perm (es.take d'.size) := by simpa using h
      rwa [hds, List.take_of_length_le (Nat.le_refl _)] at h'
    have hsrt : BAsc d'.toList := by
      refine List.pairwise_iff_getElem.2 fun i j hi hj hij => ?_
      have h := hso i j (Nat.zero_le _) hij (by simpa [hds] using hj)
      rw [ltB] at h
      have h2 := of_decide_eq_false h
      rw [getElem!_pos d' i (by simpa using hi), getElem!_pos d' j (by simpa using hj)] at h2
      simpa only [Array.getElem_toList] using h2
    have hfd : Go.Sort.flatK BK.cells 3 d' = (bkC d'.toList).toArray := by have := flatK_bkC d'.toList; simpa using this
    rw [hfd]
    obtain ⟨h1, h2⟩ := putRow_rowB id (g := g) (cur := cur) (t := 71) (fz := fz) (H := Fr) n os (bkC d'.toList).toArray (by simpa using hH)
    refine ⟨rfl, [(g, .cells (Go.Sort.putCells id 0 (bkC d'.toList).toArray cur) 71 fz)], ⟨d'.toList, hperm, hsrt, ?_⟩, h1, h2⟩
    have hl2 : (bkC d'.toList).length = es.length * 3 := by rw [bkC_len]; simp [hds]
    have e1 := putCells_takeB id (bkC d'.toList) cur (by rw [hl2]; omega)
    rw [hl2] at e1
    have hl3 : d'.toList.length = es.length := by simpa using hds
    exact ⟨by rw [bkC_len], .inr ⟨g, cap, _, fz, by rw [hl3], by rw [hl3]; exact hn, hc, by rw [putCells_sizeB]; omega, by rw [hl3, e1, List.map_id], by rw [putCells_sizeB]; exact hf, rfl⟩⟩
end Go.Proofs.Ytinfbpldgobmfaa
