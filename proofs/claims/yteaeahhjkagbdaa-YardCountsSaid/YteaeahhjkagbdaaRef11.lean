/-
  Chapter 11's answer: the yard of sculleryref11 by the model of package yard; one block of it is opened.
-/
import Derived.Test.YteaeahhjkagbdaaL11
namespace Go.Proofs.Yteaeahhjkagbdaa
open Go.RowKit
set_option linter.unusedSimpArgs false
set_option linter.unusedVariables false

/-- an own row: its cells, wherever it stands -/
theorem IsRow.open1 {e : TypeId} {v : Value} {n : Nat} {xs : List Value} {H : HL} (h : IsRow e 1 v n xs H) (h0 : 0 < n) :
    ∃ g cap, v = .slice (some ⟨g, 0, none⟩) n cap ∧ n ≤ cap ∧ cap ≤ maxLen ∧ ∀ (w : World) (F : HL), Holds w (H ++ F) → ∀ j u0, xs[j]? = some u0 →
      w.cell? ⟨g, j, none⟩ = some u0 ∧ w.frozen? ⟨g, j, none⟩ = false ∧ ∀ u, ∃ H', IsRow e 1 v n (xs.set j u) H' ∧ Holds (w.setCell ⟨g, j, none⟩ u) (H' ++ F) := by
  have h2 := h
  obtain ⟨hl, ⟨rfl, rfl, rfl⟩ | ⟨g, cap, cur, fz, rfl, hn, hc, hs, ht, hf, rfl⟩⟩ := h
  · omega
  · refine ⟨g, cap, rfl, hn, hc, fun w F hH j u0 hj => ?_⟩
    have hjl : j < xs.length := (List.getElem?_eq_some_iff.1 hj).1
    obtain ⟨g', cap', hv, _, _, _, hcl, hfr, hset⟩ := h2.cell hH hjl
    injection hv with hv _ _
    injection hv with hv
    injection hv with hv
    subst hv
    refine ⟨?_, hfr, fun u => hset w F hH u⟩
    rw [hcl, ← hj, List.getElem?_eq_getElem hjl]

def boolR (c : List Value) (bs : List Bool) (H : HL) : Prop := ∃ v, c = [v] ∧ IsRow 4 1 v bs.length (bs.map Value.bool) H

theorem boolss_open {v : Value} {bss : List (List Bool)} {H : HL} (h : Rows2 boolR 76 1 v bss H) {k : Nat} {bs : List Bool} (hk : bss[k]? = some bs) (h0 : 0 < bs.length) :
    ∃ g cap pg pc, v = .slice (some ⟨g, 0, none⟩) bss.length cap ∧ bss.length ≤ cap ∧ cap ≤ maxLen ∧ bs.length ≤ pc ∧ pc ≤ maxLen ∧ ∀ (w : World) (F : HL), Holds w (H ++ F) →
      w.cell? ⟨g, k, none⟩ = some (.slice (some ⟨pg, 0, none⟩) bs.length pc) ∧ ∀ i u0, bs[i]? = some u0 → w.cell? ⟨pg, i, none⟩ = some (.bool u0) ∧ w.frozen? ⟨pg, i, none⟩ = false ∧
        ∀ u, ∃ H', Rows2 boolR 76 1 v (bss.set k (bs.set i u)) H' ∧ Holds (w.setCell ⟨pg, i, none⟩ (.bool u)) (H' ++ F) := by
  obtain ⟨g, cap, c, Hi, Hr, rfl, hc1, hc2, hkl, hcl, ⟨pv, rfl, hrow⟩, hcell, hopen, hput, _⟩ := h.open2 hk
  obtain ⟨pg, pc, rfl, hp1, hp2, hpc⟩ := hrow.open1 h0
  refine ⟨g, cap, pg, pc, rfl, hc1, hc2, hp1, hp2, fun w F hH => ?_⟩
  have h1 := hopen w F hH
  have hc := (hcell w _ h1.right).2 0 (by omega)
  refine ⟨by simpa using hc.1, fun i u0 hi => ?_⟩
  obtain ⟨a1, a2, a3⟩ := hpc w _ h1 i (.bool u0) (by simp [hi])
  refine ⟨a1, a2, fun u => ?_⟩
  obtain ⟨H2, b1, b2⟩ := a3 (.bool u)
  rw [← List.map_set] at b1
  exact hput _ F (bs.set i u) H2 ⟨_, rfl, by simpa using b1⟩ b2

theorem map_set_same {α β : Type} (f : α → β) {y : List α} {k : Nat} {x x' : α} (hx : y[k]? = some x) (he : f x' = f x) : (y.set k x').map f = y.map f := by
  apply List.ext_getElem?
  intro i
  rw [List.getElem?_map, List.getElem?_map, List.getElem?_set]
  by_cases h : k = i
  · subst h
    have hk := (List.getElem?_eq_some_iff.1 hx).1
    rw [if_pos rfl, if_pos hk, hx, Option.map_some, Option.map_some, he]
  · simp [h]

def needsOf (y : List YB) : List (List Bool) := y.map fun x => x.pages.map Prod.fst
def dirtsOf (y : List YB) : List (List Bool) := y.map fun x => x.pages.map Prod.snd
/-- the reference's yard -/
def IsRY (v : Value) (y : List YB) (P : Nat) (H : HL) : Prop :=
  ∃ b sv tv nv dv Hs Ht Hn Hd, v = .pointer (some ⟨b, 0, none⟩) ∧ IsNums sv (y.map YB.state) Hs ∧ IsNums tv (y.map YB.taken) Ht ∧ Rows2 boolR 76 1 nv (needsOf y) Hn ∧ Rows2 boolR 76 1 dv (dirtsOf y) Hd ∧
    (∀ x ∈ y, x.ok ∧ x.pages.length = P ∧ 1 ≤ x.state) ∧ y.length ≤ 32 ∧ 1 ≤ P ∧ P ≤ 8 ∧ H = (b, .cells #[sv, tv, nv, dv, .int .i64 P] 143) :: (Hs ++ (Ht ++ (Hn ++ Hd)))
theorem IsRY.ptr {v : Value} {y : List YB} {P : Nat} {H : HL} (h : IsRY v y P H) : ∃ b, v = .pointer (some ⟨b, 0, none⟩) := by
  obtain ⟨b, _, _, _, _, _, _, _, _, rfl, _⟩ := h; exact ⟨b, rfl⟩
theorem IsRY.small {v : Value} {y : List YB} {P : Nat} {H : HL} (h : IsRY v y P H) : y.length ≤ 32 ∧ 1 ≤ P ∧ P ≤ 8 ∧ ∀ x ∈ y, x.ok ∧ x.pages.length = P ∧ 1 ≤ x.state := by
  obtain ⟨b, _, _, _, _, _, _, _, _, rfl, _, _, _, _, h1, h2, h3, h4, _⟩ := h; exact ⟨h2, h3, h4, h1⟩
/-- how many blocks there are is read -/
theorem IsRY.view {v : Value} {y : List YB} {P : Nat} {H : HL} (h : IsRY v y P H) : ∃ b A c, v = .pointer (some ⟨b, 0, none⟩) ∧ y.length ≤ c ∧ c ≤ maxLen ∧
    ∀ (w : World) (F : HL), Holds w (H ++ F) → w.cell? ⟨b, 0, none⟩ = some (.slice A y.length c) ∧ w.cell? ⟨b, 4, none⟩ = some (.int .i64 (P : Int)) := by
  obtain ⟨b, sv, tv, nv, dv, Hs, Ht, Hn, Hd, rfl, hs, _, _, _, _, _, _, _, rfl⟩ := h
  have hl := hs.2
  obtain ⟨A, c, rfl⟩ := IsRow.val hs
  have hnc : (y.map YB.state).length ≤ c ∧ c ≤ maxLen := by
    rcases hs.2 with ⟨h1, h2, _⟩ | ⟨g, cap, cur, fz, h1, h2, h3, _⟩
    · injection h1 with _ _ h1; rw [h2, h1]; exact ⟨Nat.le_refl _, by simp [maxLen]⟩
    · injection h1 with _ _ h1; rw [h1]; exact ⟨h2, h3⟩
  rw [List.length_map] at hnc hl
  refine ⟨b, A, c, rfl, hnc.1, hnc.2, fun w F hH => ⟨?_, ?_⟩⟩
  · have := hH.hcell 0
    simpa using this
  · have := hH.hcell 4
    simpa using this

/-- one block of the reference's yard -/
structure RYAt (v : Value) (y : List YB) (P : Nat) (H : HL) (k : Nat) (x : YB) (b gs cs gt ct gn cn gd cd pn pnc pd pdc : Nat) : Prop where
  ptr : v = .pointer (some ⟨b, 0, none⟩)
  bd : y.length ≤ cs ∧ cs ≤ maxLen ∧ y.length ≤ ct ∧ ct ≤ maxLen ∧ y.length ≤ cn ∧ cn ≤ maxLen ∧ y.length ≤ cd ∧ cd ≤ maxLen ∧ P ≤ pnc ∧ pnc ≤ maxLen ∧ P ≤ pdc ∧ pdc ≤ maxLen ∧ k < y.length ∧ y.length ≤ 32 ∧ 1 ≤ P ∧ P ≤ 8
  ok : x.ok ∧ x.pages.length = P ∧ 1 ≤ x.state
  heads : ∀ (w : World) (F : HL), Holds w (H ++ F) → w.cell? ⟨b, 0, none⟩ = some (.slice (some ⟨gs, 0, none⟩) y.length cs) ∧ w.cell? ⟨b, 1, none⟩ = some (.slice (some ⟨gt, 0, none⟩) y.length ct) ∧
    w.cell? ⟨b, 2, none⟩ = some (.slice (some ⟨gn, 0, none⟩) y.length cn) ∧ w.cell? ⟨b, 3, none⟩ = some (.slice (some ⟨gd, 0, none⟩) y.length cd) ∧ w.cell? ⟨b, 4, none⟩ = some (.int .i64 (P : Int))
  cells : ∀ (w : World) (F : HL), Holds w (H ++ F) → w.cell? ⟨gs, k, none⟩ = some (.int .i64 x.state) ∧ w.cell? ⟨gt, k, none⟩ = some (.int .i64 x.taken) ∧ w.frozen? ⟨gs, k, none⟩ = false ∧ w.frozen? ⟨gt, k, none⟩ = false
  rows : ∀ (w : World) (F : HL), Holds w (H ++ F) → w.cell? ⟨gn, k, none⟩ = some (.slice (some ⟨pn, 0, none⟩) P pnc) ∧ w.cell? ⟨gd, k, none⟩ = some (.slice (some ⟨pd, 0, none⟩) P pdc)
  pages : ∀ (w : World) (F : HL), Holds w (H ++ F) → ∀ i q, x.pages[i]? = some q → w.cell? ⟨pn, i, none⟩ = some (.bool q.1) ∧ w.cell? ⟨pd, i, none⟩ = some (.bool q.2) ∧ w.frozen? ⟨pn, i, none⟩ = false ∧ w.frozen? ⟨pd, i, none⟩ = false
  setS : ∀ (w : World) (F : HL) (u : Int), Holds w (H ++ F) → 1 ≤ u → u ≤ 100 → ∃ H', IsRY v (y.set k { x with state := u }) P H' ∧ Holds (w.setCell ⟨gs, k, none⟩ (.int .i64 u)) (H' ++ F)
  setT : ∀ (w : World) (F : HL) (t : Int), Holds w (H ++ F) → 0 ≤ t → t ≤ 8 → ∃ H', IsRY v (y.set k { x with taken := t }) P H' ∧ Holds (w.setCell ⟨gt, k, none⟩ (.int .i64 t)) (H' ++ F)
  setST : ∀ (w : World) (F : HL) (u t : Int), Holds w (H ++ F) → 1 ≤ u → u ≤ 100 → 0 ≤ t → t ≤ 8 →
    (w.setCell ⟨gs, k, none⟩ (.int .i64 u)).frozen? ⟨gt, k, none⟩ = false ∧ (w.setCell ⟨gs, k, none⟩ (.int .i64 u)).cell? ⟨gt, k, none⟩ = some (.int .i64 x.taken) ∧
    ∃ H', IsRY v (y.set k { x with state := u, taken := t }) P H' ∧ Holds ((w.setCell ⟨gs, k, none⟩ (.int .i64 u)).setCell ⟨gt, k, none⟩ (.int .i64 t)) (H' ++ F)
  setD : ∀ (w : World) (F : HL) (i : Nat) (q : Bool × Bool) (d : Bool), Holds w (H ++ F) → x.pages[i]? = some q → ∃ H', IsRY v (y.set k { x with pages := x.pages.set i (q.1, d) }) P H' ∧ Holds (w.setCell ⟨pd, i, none⟩ (.bool d)) (H' ++ F)
  setND : ∀ (w : World) (F : HL) (i : Nat) (q u : Bool × Bool), Holds w (H ++ F) → x.pages[i]? = some q →
    (w.setCell ⟨pn, i, none⟩ (.bool u.1)).frozen? ⟨pd, i, none⟩ = false ∧ (w.setCell ⟨pn, i, none⟩ (.bool u.1)).cell? ⟨pd, i, none⟩ = some (.bool q.2) ∧
    ∃ H', IsRY v (y.set k { x with pages := x.pages.set i u }) P H' ∧ Holds ((w.setCell ⟨pn, i, none⟩ (.bool u.1)).setCell ⟨pd, i, none⟩ (.bool u.2)) (H' ++ F)

theorem IsRY.open_ {v : Value} {y : List YB} {P : Nat} {H : HL} (h : IsRY v y P H) {k : Nat} {x : YB} (hx : y[k]? = some x) :
    ∃ b gs cs gt ct gn cn gd cd pn pnc pd pdc, RYAt v y P H k x b gs cs gt ct gn cn gd cd pn pnc pd pdc := by
  obtain ⟨b, sv, tv, nv, dv, Hs, Ht, Hn, Hd, rfl, hs, ht, hn, hd, hok, hlen, hP1, hP8, rfl⟩ := h
  have hk : k < y.length := (List.getElem?_eq_some_iff.1 hx).1
  have hxo := hok x (List.mem_of_getElem? hx)
  obtain ⟨gs, cs, rfl, hs1, hs2, hsc⟩ := IsRow.open1 hs (by rw [List.length_map]; omega)
  obtain ⟨gt, ct, rfl, ht1, ht2, htc⟩ := IsRow.open1 ht (by rw [List.length_map]; omega)
  obtain ⟨gn, cn, pn, pnc, rfl, hn1, hn2, hn3, hn4, hnc⟩ := boolss_open hn (k := k) (bs := x.pages.map Prod.fst) (by simp [needsOf, hx]) (by rw [List.length_map]; omega)
  obtain ⟨gd, cd, pd, pdc, rfl, hd1, hd2, hd3, hd4, hdc⟩ := boolss_open hd (k := k) (bs := x.pages.map Prod.snd) (by simp [dirtsOf, hx]) (by rw [List.length_map]; omega)
  have hln : (needsOf y).length = y.length := by simp [needsOf]
  have hld : (dirtsOf y).length = y.length := by simp [dirtsOf]
  rw [hln] at hn hn1 hnc
  rw [hld] at hd hd1 hdc
  simp only [List.length_map, hxo.2.1] at hs1 ht1 hn3 hd3 hnc hdc hsc htc hs ht
  have hsc' := fun (w : World) (F : HL) (hH : Holds w (Hs ++ F)) => hsc w F hH k (.int .i64 x.state) (by simp [hx])
  have htc' := fun (w : World) (F : HL) (hH : Holds w (Ht ++ F)) => htc w F hH k (.int .i64 x.taken) (by simp [hx])
  clear hsc htc
  obtain ⟨o, ho⟩ : ∃ o, o = Obj.cells #[.slice (some ⟨gs, 0, none⟩) y.length cs, .slice (some ⟨gt, 0, none⟩) y.length ct, .slice (some ⟨gn, 0, none⟩) y.length cn, .slice (some ⟨gd, 0, none⟩) y.length cd, .int .i64 (P : Int)] 143 := ⟨_, rfl⟩
  have hsetok : ∀ x' : YB, (x'.ok ∧ x'.pages.length = P ∧ 1 ≤ x'.state) → ∀ z ∈ y.set k x', z.ok ∧ z.pages.length = P ∧ 1 ≤ z.state := by
    intro x' hx' z hz
    rcases List.mem_or_eq_of_mem_set hz with h | h
    · exact hok z h
    · rw [h]; exact hx'
  have hpS : ∀ (w : World) (F Hs' : HL), Holds w (((b, o) :: (Hs' ++ (Ht ++ (Hn ++ Hd)))) ++ F) → Holds w (Hs' ++ (Ht ++ ((b, o) :: (Hn ++ (Hd ++ F))))) := fun w F Hs' hH => hH.sub (by (repeat' (first | refine sub_append ?_ ?_ | refine sub_cons ?_ ?_ | exact sub_nil)); all_goals first | (intro p hp; simp only [List.mem_append, List.mem_cons, hp, true_or, or_true]) | simp only [List.mem_append, List.mem_cons, true_or, or_true]) (fun b => by simp only [keyc_append, keyc_cons, keyc_nil]; omega)
  have hpT : ∀ (w : World) (F Hs' Ht' : HL), Holds w (((b, o) :: (Hs' ++ (Ht' ++ (Hn ++ Hd)))) ++ F) → Holds w (Ht' ++ (Hs' ++ ((b, o) :: (Hn ++ (Hd ++ F))))) := fun w F Hs' Ht' hH => hH.sub (by (repeat' (first | refine sub_append ?_ ?_ | refine sub_cons ?_ ?_ | exact sub_nil)); all_goals first | (intro p hp; simp only [List.mem_append, List.mem_cons, hp, true_or, or_true]) | simp only [List.mem_append, List.mem_cons, true_or, or_true]) (fun b => by simp only [keyc_append, keyc_cons, keyc_nil]; omega)
  have hpN : ∀ (w : World) (F Hn' : HL), Holds w (((b, o) :: (Hs ++ (Ht ++ (Hn' ++ Hd)))) ++ F) → Holds w (Hn' ++ (Hd ++ ((b, o) :: (Hs ++ (Ht ++ F))))) := fun w F Hn' hH => hH.sub (by (repeat' (first | refine sub_append ?_ ?_ | refine sub_cons ?_ ?_ | exact sub_nil)); all_goals first | (intro p hp; simp only [List.mem_append, List.mem_cons, hp, true_or, or_true]) | simp only [List.mem_append, List.mem_cons, true_or, or_true]) (fun b => by simp only [keyc_append, keyc_cons, keyc_nil]; omega)
  have hpD : ∀ (w : World) (F Hn' Hd' : HL), Holds w (((b, o) :: (Hs ++ (Ht ++ (Hn' ++ Hd')))) ++ F) → Holds w (Hd' ++ (Hn' ++ ((b, o) :: (Hs ++ (Ht ++ F))))) := fun w F Hn' Hd' hH => hH.sub (by (repeat' (first | refine sub_append ?_ ?_ | refine sub_cons ?_ ?_ | exact sub_nil)); all_goals first | (intro p hp; simp only [List.mem_append, List.mem_cons, hp, true_or, or_true]) | simp only [List.mem_append, List.mem_cons, true_or, or_true]) (fun b => by simp only [keyc_append, keyc_cons, keyc_nil]; omega)
  have hqS : ∀ (w : World) (F Hs' : HL), Holds w (Hs' ++ (Ht ++ ((b, o) :: (Hn ++ (Hd ++ F))))) → Holds w (((b, o) :: (Hs' ++ (Ht ++ (Hn ++ Hd)))) ++ F) := fun w F Hs' hH => hH.sub (by (repeat' (first | refine sub_append ?_ ?_ | refine sub_cons ?_ ?_ | exact sub_nil)); all_goals first | (intro p hp; simp only [List.mem_append, List.mem_cons, hp, true_or, or_true]) | simp only [List.mem_append, List.mem_cons, true_or, or_true]) (fun b => by simp only [keyc_append, keyc_cons, keyc_nil]; omega)
  have hqT : ∀ (w : World) (F Hs' Ht' : HL), Holds w (Ht' ++ (Hs' ++ ((b, o) :: (Hn ++ (Hd ++ F))))) → Holds w (((b, o) :: (Hs' ++ (Ht' ++ (Hn ++ Hd)))) ++ F) := fun w F Hs' Ht' hH => hH.sub (by (repeat' (first | refine sub_append ?_ ?_ | refine sub_cons ?_ ?_ | exact sub_nil)); all_goals first | (intro p hp; simp only [List.mem_append, List.mem_cons, hp, true_or, or_true]) | simp only [List.mem_append, List.mem_cons, true_or, or_true]) (fun b => by simp only [keyc_append, keyc_cons, keyc_nil]; omega)
  have hqN : ∀ (w : World) (F Hn' Hd' : HL), Holds w (Hn' ++ (Hd' ++ ((b, o) :: (Hs ++ (Ht ++ F))))) → Holds w (((b, o) :: (Hs ++ (Ht ++ (Hn' ++ Hd')))) ++ F) := fun w F Hn' Hd' hH => hH.sub (by (repeat' (first | refine sub_append ?_ ?_ | refine sub_cons ?_ ?_ | exact sub_nil)); all_goals first | (intro p hp; simp only [List.mem_append, List.mem_cons, hp, true_or, or_true]) | simp only [List.mem_append, List.mem_cons, true_or, or_true]) (fun b => by simp only [keyc_append, keyc_cons, keyc_nil]; omega)
  have hqD : ∀ (w : World) (F Hn' Hd' : HL), Holds w (Hd' ++ (Hn' ++ ((b, o) :: (Hs ++ (Ht ++ F))))) → Holds w (((b, o) :: (Hs ++ (Ht ++ (Hn' ++ Hd')))) ++ F) := fun w F Hn' Hd' hH => hH.sub (by (repeat' (first | refine sub_append ?_ ?_ | refine sub_cons ?_ ?_ | exact sub_nil)); all_goals first | (intro p hp; simp only [List.mem_append, List.mem_cons, hp, true_or, or_true]) | simp only [List.mem_append, List.mem_cons, true_or, or_true]) (fun b => by simp only [keyc_append, keyc_cons, keyc_nil]; omega)
  -- how a yard is closed again
  have mk : ∀ (x' : YB) (Hs' Ht' Hn' Hd' : HL), (x'.ok ∧ x'.pages.length = P ∧ 1 ≤ x'.state) → IsNums (.slice (some ⟨gs, 0, none⟩) y.length cs) ((y.set k x').map YB.state) Hs' → IsNums (.slice (some ⟨gt, 0, none⟩) y.length ct) ((y.set k x').map YB.taken) Ht' →
      Rows2 boolR 76 1 (.slice (some ⟨gn, 0, none⟩) y.length cn) (needsOf (y.set k x')) Hn' → Rows2 boolR 76 1 (.slice (some ⟨gd, 0, none⟩) y.length cd) (dirtsOf (y.set k x')) Hd' →
      IsRY (.pointer (some ⟨b, 0, none⟩)) (y.set k x') P ((b, o) :: (Hs' ++ (Ht' ++ (Hn' ++ Hd')))) := by
    intro x' Hs' Ht' Hn' Hd' h1 h2 h3 h4 h5
    exact ⟨b, _, _, _, _, Hs', Ht', Hn', Hd', rfl, h2, h3, h4, h5, hsetok x' h1, by simpa using hlen, hP1, hP8, by rw [ho]⟩
  have eS : ∀ t p, (y.set k ⟨x.state, t, p⟩).map YB.state = y.map YB.state := fun t p => map_set_same _ hx rfl
  have eT : ∀ s p, (y.set k ⟨s, x.taken, p⟩).map YB.taken = y.map YB.taken := fun s p => map_set_same _ hx rfl
  have eN : ∀ s t p, p.map Prod.fst = x.pages.map Prod.fst → needsOf (y.set k ⟨s, t, p⟩) = needsOf y := fun s t p e => map_set_same _ hx e
  have eD : ∀ s t p, p.map Prod.snd = x.pages.map Prod.snd → dirtsOf (y.set k ⟨s, t, p⟩) = dirtsOf y := fun s t p e => map_set_same _ hx e
  have fS : ∀ (x' : YB) (Hs' : HL), IsRow 3 1 (.slice (some ⟨gs, 0, none⟩) y.length cs) y.length (((y.map YB.state).map (Value.int .i64)).set k (.int .i64 x'.state)) Hs' → IsNums (.slice (some ⟨gs, 0, none⟩) y.length cs) ((y.set k x').map YB.state) Hs' := by
    intro x' Hs' h1
    unfold IsNums
    rw [List.length_map, List.length_set, List.map_set, List.map_set]
    exact h1
  have fT : ∀ (x' : YB) (Ht' : HL), IsRow 3 1 (.slice (some ⟨gt, 0, none⟩) y.length ct) y.length (((y.map YB.taken).map (Value.int .i64)).set k (.int .i64 x'.taken)) Ht' → IsNums (.slice (some ⟨gt, 0, none⟩) y.length ct) ((y.set k x').map YB.taken) Ht' := by
    intro x' Hs' h1
    unfold IsNums
    rw [List.length_map, List.length_set, List.map_set, List.map_set]
    exact h1
  simp only [List.length_map, hln, hld]
  rw [← ho]
  refine ⟨b, gs, cs, gt, ct, gn, cn, gd, cd, pn, pnc, pd, pdc, ⟨rfl, ?_, hxo, ?_, ?_, ?_, ?_, ?_, ?_, ?_, ?_, ?_⟩⟩
  · exact ⟨hs1, hs2, ht1, ht2, hn1, hn2, hd1, hd2, hn3, hn4, hd3, hd4, hk, hlen, hP1, hP8⟩
  · intro w F hH
    rw [ho] at hH
    exact ⟨by simpa using hH.hcell 0, by simpa using hH.hcell 1, by simpa using hH.hcell 2, by simpa using hH.hcell 3, by simpa using hH.hcell 4⟩
  · intro w F hH
    have a := hsc' w _ (hpS w F Hs hH)
    have b := htc' w _ (hpT w F Hs Ht hH)
    exact ⟨a.1, b.1, a.2.1, b.2.1⟩
  · intro w F hH
    exact ⟨(hnc w _ (hpN w F Hn hH)).1, (hdc w _ (hpD w F Hn Hd hH)).1⟩
  · intro w F hH i q hq
    have a := (hnc w _ (hpN w F Hn hH)).2 i q.1 (by simp [hq])
    have b := (hdc w _ (hpD w F Hn Hd hH)).2 i q.2 (by simp [hq])
    exact ⟨a.1, b.1, a.2.1, b.2.1⟩
  · intro w F u hH hu1 hu2
    obtain ⟨Hs', h1, h2⟩ := (hsc' w _ (hpS w F Hs hH)).2.2 (.int .i64 u)
    exact ⟨_, mk { x with state := u } Hs' Ht Hn Hd ⟨⟨hxo.1.1, hxo.1.2.1, hxo.1.2.2.1, by show 0 ≤ u; omega, hu2⟩, hxo.2.1, hu1⟩ (fS { x with state := u } _ h1) (by rw [eT]; exact ht) (by rw [eN _ _ _ rfl]; exact hn) (by rw [eD _ _ _ rfl]; exact hd), hqS _ F Hs' h2⟩
  · intro w F t hH hu1 hu2
    obtain ⟨Ht', h1, h2⟩ := (htc' w _ (hpT w F Hs Ht hH)).2.2 (.int .i64 t)
    exact ⟨_, mk { x with taken := t } Hs Ht' Hn Hd ⟨⟨hu1, hu2, hxo.1.2.2.1, hxo.1.2.2.2⟩, hxo.2.1, hxo.2.2⟩ (by rw [eS]; exact hs) (fT { x with taken := t } _ h1) (by rw [eN _ _ _ rfl]; exact hn) (by rw [eD _ _ _ rfl]; exact hd), hqT _ F Hs Ht' h2⟩
  · intro w F u t hH hu1 hu2 ht1 ht2
    obtain ⟨Hs', h1, h2⟩ := (hsc' w _ (hpS w F Hs hH)).2.2 (.int .i64 u)
    have h3 := htc' _ _ (hpT _ F Hs' Ht (hqS _ F Hs' h2))
    obtain ⟨Ht', h4, h5⟩ := h3.2.2 (.int .i64 t)
    exact ⟨h3.2.1, h3.1, _, mk { x with state := u, taken := t } Hs' Ht' Hn Hd ⟨⟨ht1, ht2, hxo.1.2.2.1, by show 0 ≤ u; omega, hu2⟩, hxo.2.1, hu1⟩ (fS { x with state := u, taken := t } _ h1) (fT { x with state := u, taken := t } _ h4) (by rw [eN _ _ _ rfl]; exact hn) (by rw [eD _ _ _ rfl]; exact hd), hqT _ F Hs' Ht' h5⟩
  · intro w F i q d hH hq
    obtain ⟨Hd', h1, h2⟩ := ((hdc w _ (hpD w F Hn Hd hH)).2 i q.2 (by simp [hq])).2.2 d
    have hi := (List.getElem?_eq_some_iff.1 hq).1
    have hqe := (List.getElem?_eq_some_iff.1 hq).2
    have hpl : (x.pages.set i (q.1, d)).length = x.pages.length := by simp
    exact ⟨_, mk { x with pages := x.pages.set i (q.1, d) } Hs Ht Hn Hd' ⟨⟨hxo.1.1, hxo.1.2.1, by show List.length _ ≤ 8; rw [hpl]; exact hxo.1.2.2.1, hxo.1.2.2.2⟩, by show List.length _ = P; rw [hpl]; exact hxo.2.1, hxo.2.2⟩ (by rw [eS]; exact hs) (by rw [eT]; exact ht) (by rw [eN _ _ _ (map_set_same (x' := (q.1, d)) Prod.fst hq rfl)]; exact hn) (by unfold dirtsOf; rw [List.map_set]; simp only [List.map_set]; exact h1), hqD _ F Hn Hd' h2⟩
  · intro w F i q u hH hq
    obtain ⟨Hn', h1, h2⟩ := ((hnc w _ (hpN w F Hn hH)).2 i q.1 (by simp [hq])).2.2 u.1
    have h3 := (hdc _ _ (hpD _ F Hn' Hd (hqN _ F Hn' Hd h2))).2 i q.2 (by simp [hq])
    obtain ⟨Hd', h4, h5⟩ := h3.2.2 u.2
    have hpl : (x.pages.set i u).length = x.pages.length := by simp
    exact ⟨h3.2.1, h3.1, _, mk { x with pages := x.pages.set i u } Hs Ht Hn' Hd' ⟨⟨hxo.1.1, hxo.1.2.1, by show List.length _ ≤ 8; rw [hpl]; exact hxo.1.2.2.1, hxo.1.2.2.2⟩, by show List.length _ = P; rw [hpl]; exact hxo.2.1, hxo.2.2⟩ (by rw [eS]; exact hs) (by rw [eT]; exact ht) (by unfold needsOf; rw [List.map_set]; simp only [List.map_set]; exact h1) (by unfold dirtsOf; rw [List.map_set]; simp only [List.map_set]; exact h4), hqD _ F Hn' Hd' h5⟩
end Go.Proofs.Yteaeahhjkagbdaa
