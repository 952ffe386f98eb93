/-
  Package nand: a chip by the model CM; its heads, its blocks, its pages.
-/
import Derived.Test.YtndalabilfdgkaaMi
import Derived.Test.YtndalabilfdgkaaBys
namespace Go.Proofs.Ytndalabilfdgkaa
open Go.RowKit
set_option linter.unusedSimpArgs false
set_option linter.unusedVariables false

theorem tNblocks : SlT Try.prog 55 61 5 48 (.agg #[.slice none 0 0, .int .i64 0, .int .i64 0, .bool false, .bool false]) := SlT.mk' (by kernel_rfl) (by kernel_rfl) (by rfl) (by decide)
theorem tBytess8 : SlT Try.prog 58 28 1 24 (.slice none 0 0) := SlT.mk' (by kernel_rfl) (by kernel_rfl) (by rfl) (by decide)

structure CB where
  pages : List (List UInt8)
  next : Int
  wear : Int
  failed : Bool
  mark : Bool
structure CM where
  P : Nat
  Z : Nat
  blocks : List CB
  ms : List Mi
  on : Bool
  ops : Int
  misuse : Int
  programs : Int
def CM.setB (c : CM) (k : Nat) (x : CB) : CM := { c with blocks := c.blocks.set k x }
def CB.ok (x : CB) (P Z : Nat) (ops : Int) : Prop := x.pages.length = P ∧ (∀ p ∈ x.pages, p.length = Z + 28) ∧ 0 ≤ x.next ∧ x.next ≤ P ∧ 0 ≤ x.wear ∧ x.wear ≤ ops
def CM.ok (c : CM) : Prop := 1 ≤ c.P ∧ c.P ≤ 8 ∧ 128 ≤ c.Z ∧ c.Z ≤ 256 ∧ 1 ≤ c.blocks.length ∧ c.blocks.length ≤ 32 ∧ c.ms.length ≤ 24 ∧ (∀ m ∈ c.ms, m.ok) ∧ 0 ≤ c.ops ∧ 0 ≤ c.misuse ∧ c.misuse ≤ c.ops ∧ 0 ≤ c.programs ∧ c.programs ≤ c.ops ∧ ∀ x ∈ c.blocks, x.ok c.P c.Z c.ops
def cbR (c : List Value) (x : CB) (H : HL) : Prop := ∃ pv, c = [pv, .int .i64 x.next, .int .i64 x.wear, .bool x.failed, .bool x.mark] ∧ IsBys pv x.pages H
def chipO (g cap : Nat) (mv : Value) (c : CM) : Obj := .cells #[.int .i64 (c.blocks.length : Int), .int .i64 (c.P : Int), .int .i64 (c.Z : Int), .slice (some ⟨g, 0, none⟩) c.blocks.length cap, mv, .bool c.on, .int .i64 c.ops, .int .i64 c.misuse, .int .i64 c.programs] 57
/-- a chip whose blocks lie at g -/
def ChipAt (b g cap : Nat) (mv : Value) (c : CM) (H : HL) : Prop :=
  ∃ Hb Hm, Rows2 cbR 61 5 (.slice (some ⟨g, 0, none⟩) c.blocks.length cap) c.blocks Hb ∧ IsMs mv c.ms Hm ∧ c.ok ∧ H = (b, chipO g cap mv c) :: (Hb ++ Hm)
def IsChip (v : Value) (c : CM) (H : HL) : Prop := ∃ b g cap mv, v = .pointer (some ⟨b, 0, none⟩) ∧ ChipAt b g cap mv c H

section
variable {b g cap : Nat} {mv : Value} {c : CM} {H F : HL} {w : World}
theorem ChipAt.cok (h : ChipAt b g cap mv c H) : c.ok := by obtain ⟨_, _, _, _, h, _⟩ := h; exact h
theorem ChipAt.caps (h : ChipAt b g cap mv c H) : c.blocks.length ≤ cap ∧ cap ≤ maxLen := by
  obtain ⟨_, _, h, _⟩ := h
  obtain ⟨A, c2, hv, h1, h2⟩ := h.val
  injection hv with _ _ hv
  subst hv
  exact ⟨h1, h2⟩
theorem ChipAt.heads (h : ChipAt b g cap mv c H) (hH : Holds w (H ++ F)) :
    w.cell? ⟨b, 0, none⟩ = some (.int .i64 (c.blocks.length : Int)) ∧ w.cell? ⟨b, 1, none⟩ = some (.int .i64 (c.P : Int)) ∧ w.cell? ⟨b, 2, none⟩ = some (.int .i64 (c.Z : Int)) ∧
    w.cell? ⟨b, 3, none⟩ = some (.slice (some ⟨g, 0, none⟩) c.blocks.length cap) ∧ w.cell? ⟨b, 4, none⟩ = some mv ∧ w.cell? ⟨b, 5, none⟩ = some (.bool c.on) ∧ w.cell? ⟨b, 6, none⟩ = some (.int .i64 c.ops) ∧
    w.cell? ⟨b, 7, none⟩ = some (.int .i64 c.misuse) ∧ w.cell? ⟨b, 8, none⟩ = some (.int .i64 c.programs) ∧
    w.frozen? ⟨b, 5, none⟩ = false ∧ w.frozen? ⟨b, 6, none⟩ = false ∧ w.frozen? ⟨b, 7, none⟩ = false ∧ w.frozen? ⟨b, 8, none⟩ = false := by
  obtain ⟨Hb, Hm, _, _, _, rfl⟩ := h
  unfold chipO at hH
  exact ⟨by simpa using hH.hcell 0, by simpa using hH.hcell 1, by simpa using hH.hcell 2, by simpa using hH.hcell 3, by simpa using hH.hcell 4, by simpa using hH.hcell 5, by simpa using hH.hcell 6, by simpa using hH.hcell 7, by simpa using hH.hcell 8,
    hH.hfrozen 5, hH.hfrozen 6, hH.hfrozen 7, hH.hfrozen 8⟩
theorem ChipAt.mis (h : ChipAt b g cap mv c H) (hH : Holds w (H ++ F)) : MsAt w mv c.ms := by
  obtain ⟨Hb, Hm, _, hm, _, rfl⟩ := h
  exact IsRow.reads hm (Fr := Hb ++ ((b, chipO g cap mv c) :: F)) (hH.sub (by (repeat' (first | refine sub_append ?_ ?_ | refine sub_cons ?_ ?_ | exact sub_nil)); all_goals first | (intro p hp; simp only [List.mem_append, List.mem_cons, hp, true_or, or_true]) | simp only [List.mem_append, List.mem_cons, true_or, or_true]) (fun b => by simp only [keyc_append, keyc_cons, keyc_nil]; omega))
/-- the switch, the counts -/
theorem ChipAt.setOn (h : ChipAt b g cap mv c H) (hH : Holds w (H ++ F)) (u : Bool) : ∃ H', ChipAt b g cap mv { c with on := u } H' ∧ Holds (w.setCell ⟨b, 5, none⟩ (.bool u)) (H' ++ F) := by
  obtain ⟨Hb, Hm, h1, h2, h3, rfl⟩ := h
  refine ⟨_, ⟨Hb, Hm, h1, h2, h3, rfl⟩, ?_⟩
  have := Holds.set hH 5 (.bool u)
  simpa [chipO] using this
theorem ChipAt.setOps (h : ChipAt b g cap mv c H) (hH : Holds w (H ++ F)) : ∃ H', ChipAt b g cap mv { c with ops := c.ops + 1 } H' ∧ Holds (w.setCell ⟨b, 6, none⟩ (.int .i64 (c.ops + 1))) (H' ++ F) := by
  obtain ⟨Hb, Hm, h1, h2, h3, rfl⟩ := h
  obtain ⟨a1, a2, a3, a4, a5, a6, a7, a8, a9, b1, b2, b3, b4, b5⟩ := h3
  refine ⟨_, ⟨Hb, Hm, h1, h2, ⟨a1, a2, a3, a4, a5, a6, a7, a8, by show 0 ≤ c.ops + 1; omega, b1, by show c.misuse ≤ c.ops + 1; omega, b3, by show c.programs ≤ c.ops + 1; omega, fun x hx => ?_⟩, rfl⟩, ?_⟩
  · obtain ⟨e1, e2, e3, e4, e5, e6⟩ := b5 x hx
    exact ⟨e1, e2, e3, e4, e5, by show x.wear ≤ c.ops + 1; omega⟩
  · have := Holds.set hH 6 (.int .i64 (c.ops + 1))
    simpa [chipO] using this
theorem ChipAt.setMisuse (h : ChipAt b g cap mv c H) (hH : Holds w (H ++ F)) (u : Int) (h0 : 0 ≤ u) (h1 : u ≤ c.ops) : ∃ H', ChipAt b g cap mv { c with misuse := u } H' ∧ Holds (w.setCell ⟨b, 7, none⟩ (.int .i64 u)) (H' ++ F) := by
  obtain ⟨Hb, Hm, h1', h2, h3, rfl⟩ := h
  obtain ⟨a1, a2, a3, a4, a5, a6, a7, a8, a9, b1, b2, b3, b4, b5⟩ := h3
  refine ⟨_, ⟨Hb, Hm, h1', h2, ⟨a1, a2, a3, a4, a5, a6, a7, a8, a9, h0, h1, b3, b4, b5⟩, rfl⟩, ?_⟩
  have := Holds.set hH 7 (.int .i64 u)
  simpa [chipO] using this
theorem ChipAt.setPrograms (h : ChipAt b g cap mv c H) (hH : Holds w (H ++ F)) (u : Int) (h0 : 0 ≤ u) (h1 : u ≤ c.ops) : ∃ H', ChipAt b g cap mv { c with programs := u } H' ∧ Holds (w.setCell ⟨b, 8, none⟩ (.int .i64 u)) (H' ++ F) := by
  obtain ⟨Hb, Hm, h1', h2, h3, rfl⟩ := h
  obtain ⟨a1, a2, a3, a4, a5, a6, a7, a8, a9, b1, b2, b3, b4, b5⟩ := h3
  refine ⟨_, ⟨Hb, Hm, h1', h2, ⟨a1, a2, a3, a4, a5, a6, a7, a8, a9, b1, b2, h0, h1, b5⟩, rfl⟩, ?_⟩
  have := Holds.set hH 8 (.int .i64 u)
  simpa [chipO] using this

/-- one block of a chip -/
structure BlkAt (b g cap : Nat) (mv : Value) (c : CM) (H : HL) (k : Nat) (x : CB) (pv : Value) : Prop where
  bd : k < c.blocks.length
  ok : x.ok c.P c.Z c.ops
  cells : ∀ (w : World) (F : HL), Holds w (H ++ F) → w.cell? ⟨g, k * 5, none⟩ = some pv ∧ w.cell? ⟨g, k * 5 + 1, none⟩ = some (.int .i64 x.next) ∧ w.cell? ⟨g, k * 5 + 2, none⟩ = some (.int .i64 x.wear) ∧
    w.cell? ⟨g, k * 5 + 3, none⟩ = some (.bool x.failed) ∧ w.cell? ⟨g, k * 5 + 4, none⟩ = some (.bool x.mark) ∧ w.frozen? ⟨g, k * 5, none⟩ = false ∧ w.frozen? ⟨g, k * 5 + 1, none⟩ = false ∧ w.frozen? ⟨g, k * 5 + 2, none⟩ = false ∧ w.frozen? ⟨g, k * 5 + 3, none⟩ = false ∧ w.frozen? ⟨g, k * 5 + 4, none⟩ = false
  setN : ∀ (w : World) (F : HL) (u : Int), Holds w (H ++ F) → 0 ≤ u → u ≤ c.P → ∃ H', ChipAt b g cap mv (c.setB k { x with next := u }) H' ∧ Holds (w.setCell ⟨g, k * 5 + 1, none⟩ (.int .i64 u)) (H' ++ F)
  setW : ∀ (w : World) (F : HL) (u : Int), Holds w (H ++ F) → 0 ≤ u → u ≤ c.ops → ∃ H', ChipAt b g cap mv (c.setB k { x with wear := u }) H' ∧ Holds (w.setCell ⟨g, k * 5 + 2, none⟩ (.int .i64 u)) (H' ++ F)
  setF : ∀ (w : World) (F : HL) (u : Bool), Holds w (H ++ F) → ∃ H', ChipAt b g cap mv (c.setB k { x with failed := u }) H' ∧ Holds (w.setCell ⟨g, k * 5 + 3, none⟩ (.bool u)) (H' ++ F)
  setM : ∀ (w : World) (F : HL) (u : Bool), Holds w (H ++ F) → ∃ H', ChipAt b g cap mv (c.setB k { x with mark := u }) H' ∧ Holds (w.setCell ⟨g, k * 5 + 4, none⟩ (.bool u)) (H' ++ F)
  setP : ∀ (w : World) (F : HL) (pv' : Value) (ps : List (List UInt8)) (Hp : HL), Holds w (H ++ (Hp ++ F)) → IsBys pv' ps Hp → ps.length = c.P → (∀ p ∈ ps, p.length = c.Z + 28) → ∃ H', ChipAt b g cap mv (c.setB k { x with pages := ps }) H' ∧ Holds (w.setCell ⟨g, k * 5, none⟩ pv') (H' ++ F)
  pages : ∃ Hp Hr, IsBys pv x.pages Hp ∧ (∀ (w : World) (F : HL), Holds w (H ++ F) → Holds w (Hp ++ (Hr ++ F))) ∧
    ∀ (w : World) (F : HL) (ps : List (List UInt8)) (Hp' : HL), IsBys pv ps Hp' → ps.length = c.P → (∀ p ∈ ps, p.length = c.Z + 28) → Holds w (Hp' ++ (Hr ++ F)) → ∃ H', ChipAt b g cap mv (c.setB k { x with pages := ps }) H' ∧ Holds w (H' ++ F)

theorem ChipAt.open_ (h : ChipAt b g cap mv c H) {k : Nat} {x : CB} (hx : c.blocks[k]? = some x) : ∃ pv, BlkAt b g cap mv c H k x pv := by
  obtain ⟨Hb, Hm, h1, h2, h3, rfl⟩ := h
  obtain ⟨g', cap', cs, Hi, Hr, hv, hc1, hc2, hk, hcl, ⟨pv, rfl, hbys⟩, hcell, hopen, hput, hset⟩ := h1.open2 hx
  injection hv with hv _ hvc
  injection hv with hv
  injection hv with hv
  subst hv hvc
  have hxo : x.ok c.P c.Z c.ops := h3.2.2.2.2.2.2.2.2.2.2.2.2.2 x (List.mem_of_getElem? hx)
  have hrot : ∀ (w : World) (F : HL), Holds w (((b, chipO g cap mv c) :: (Hb ++ Hm)) ++ F) → Holds w (Hi ++ (Hr ++ ((b, chipO g cap mv c) :: (Hm ++ F)))) := fun w F hH => hopen w _ (hH.sub (by (repeat' (first | refine sub_append ?_ ?_ | refine sub_cons ?_ ?_ | exact sub_nil)); all_goals first | (intro p hp; simp only [List.mem_append, List.mem_cons, hp, true_or, or_true]) | simp only [List.mem_append, List.mem_cons, true_or, or_true]) (fun b => by simp only [keyc_append, keyc_cons, keyc_nil]; omega))
  have hmk : ∀ (x' : CB) (H' : HL), x'.ok c.P c.Z c.ops → Rows2 cbR 61 5 (.slice (some ⟨g, 0, none⟩) c.blocks.length cap) (c.blocks.set k x') H' → ChipAt b g cap mv (c.setB k x') ((b, chipO g cap mv c) :: (H' ++ Hm)) := by
    intro x' H' hx' hr
    obtain ⟨a1, a2, a3, a4, a5, a6, a7, a8, a9, b1, b2, b3, b4, b5⟩ := h3
    refine ⟨H', Hm, ?_, h2, ⟨a1, a2, a3, a4, ?_, ?_, a7, a8, a9, b1, b2, b3, b4, ?_⟩, ?_⟩
    · simpa [CM.setB] using hr
    · simpa [CM.setB] using a5
    · simpa [CM.setB] using a6
    · intro z hz
      rcases List.mem_or_eq_of_mem_set hz with h | h
      · exact b5 z h
      · rw [h]; exact hx'
    · simp [chipO, CM.setB]
  have hfin : ∀ (w : World) (F H' : HL), Holds w (H' ++ ((b, chipO g cap mv c) :: (Hm ++ F))) → Holds w (((b, chipO g cap mv c) :: (H' ++ Hm)) ++ F) := fun w F H' hH => hH.sub (by (repeat' (first | refine sub_append ?_ ?_ | refine sub_cons ?_ ?_ | exact sub_nil)); all_goals first | (intro p hp; simp only [List.mem_append, List.mem_cons, hp, true_or, or_true]) | simp only [List.mem_append, List.mem_cons, true_or, or_true]) (fun b => by simp only [keyc_append, keyc_cons, keyc_nil]; omega)
  obtain ⟨o1, o2, o3, o4, o5, o6⟩ := hxo
  refine ⟨pv, ⟨hk, ⟨o1, o2, o3, o4, o5, o6⟩, ?_, ?_, ?_, ?_, ?_, ?_, ?_⟩⟩
  · intro w F hH
    have a := (hcell w _ (hrot w F hH).right).2
    have e0 := a 0 (by omega)
    have e1 := a 1 (by omega)
    have e2 := a 2 (by omega)
    have e3 := a 3 (by omega)
    have e4 := a 4 (by omega)
    exact ⟨by simpa using e0.1, by simpa using e1.1, by simpa using e2.1, by simpa using e3.1, by simpa using e4.1, by simpa using e0.2, e1.2, e2.2, e3.2, e4.2⟩
  · intro w F u hH hu1 hu2
    obtain ⟨H', a1, a2⟩ := hset w _ 1 (.int .i64 u) { x with next := u } Hi (by omega) ⟨pv, rfl, hbys⟩ (hrot w F hH)
    exact ⟨_, hmk _ H' ⟨o1, o2, hu1, hu2, o5, o6⟩ a1, hfin _ F H' a2⟩
  · intro w F u hH hu1 hu2
    obtain ⟨H', a1, a2⟩ := hset w _ 2 (.int .i64 u) { x with wear := u } Hi (by omega) ⟨pv, rfl, hbys⟩ (hrot w F hH)
    exact ⟨_, hmk _ H' ⟨o1, o2, o3, o4, hu1, hu2⟩ a1, hfin _ F H' a2⟩
  · intro w F u hH
    obtain ⟨H', a1, a2⟩ := hset w _ 3 (.bool u) { x with failed := u } Hi (by omega) ⟨pv, rfl, hbys⟩ (hrot w F hH)
    exact ⟨_, hmk _ H' ⟨o1, o2, o3, o4, o5, o6⟩ a1, hfin _ F H' a2⟩
  · intro w F u hH
    obtain ⟨H', a1, a2⟩ := hset w _ 4 (.bool u) { x with mark := u } Hi (by omega) ⟨pv, rfl, hbys⟩ (hrot w F hH)
    exact ⟨_, hmk _ H' ⟨o1, o2, o3, o4, o5, o6⟩ a1, hfin _ F H' a2⟩
  · intro w F pv' ps Hp hH hp hl hz
    have hr := hrot w (Hp ++ F) hH
    obtain ⟨H', a1, a2⟩ := hset w ((b, chipO g cap mv c) :: (Hm ++ F)) 0 pv' { x with pages := ps } Hp (by omega) ⟨pv', rfl, hp⟩ (hr.right.sub (by (repeat' (first | refine sub_append ?_ ?_ | refine sub_cons ?_ ?_ | exact sub_nil)); all_goals first | (intro p hp; simp only [List.mem_append, List.mem_cons, hp, true_or, or_true]) | simp only [List.mem_append, List.mem_cons, true_or, or_true]) (fun b => by simp only [keyc_append, keyc_cons, keyc_nil]; omega))
    exact ⟨_, hmk _ H' ⟨hl, hz, o3, o4, o5, o6⟩ a1, hfin _ F H' (by simpa using a2)⟩
  · refine ⟨Hi, Hr ++ ((b, chipO g cap mv c) :: Hm), hbys, fun w F hH => by have := hrot w F hH; simpa using this, fun w F ps Hp' hp hl hz hH => ?_⟩
    obtain ⟨H', a1, a2⟩ := hput w ((b, chipO g cap mv c) :: (Hm ++ F)) { x with pages := ps } Hp' ⟨pv, rfl, hp⟩ (by simpa using hH)
    exact ⟨_, hmk _ H' ⟨hl, hz, o3, o4, o5, o6⟩ a1, hfin _ F H' a2⟩
end
end Go.Proofs.Ytndalabilfdgkaa
