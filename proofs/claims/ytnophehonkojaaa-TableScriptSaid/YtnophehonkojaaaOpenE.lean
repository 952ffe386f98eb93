/-
  What the arguments that come in are: entries, and slices of entries.
-/
import Derived.Test.YtnophehonkojaaaOpenW
import Derived.Test.YtnophehonkojaaaEnt
namespace Go.Proofs.Ytnophehonkojaaa
set_option linter.unusedSimpArgs false
open Go.ChangeShapes Go.WideShapes Go.ChangeAt Go.RowKit Go.Deep

def EntOk (e : Ent) : Prop := (0 ≤ e.addr ∧ e.addr < 18446744073709551616) ∧ IntOk e.page ∧ IntOk e.seq
theorem open_ent_cells {H : Type} {enc : TypeId × Value → H} {W : World} {spare : Nat → Bool} {held : Bool} {fuel : Nat} {cs : List Value} {y : DataW H × List MemPlace} (hl : cs.length = 4)
    (hy : DataW.trod enc Try.prog W 0 spare held fuel 28 cs = some y) : ∃ e : Ent, cs = e.cells ∧ EntOk e := by
  have hf := struct_fields Try.underlying28 (by kernel_rfl) (by rw [hl]; rfl) hy
  obtain ⟨v0, n0, y0, e0, t0⟩ := hf 0 _ rfl
  obtain ⟨v1, n1, y1, e1, t1⟩ := hf 1 _ rfl
  obtain ⟨v2, n2, y2, e2, t2⟩ := hf 2 _ rfl
  obtain ⟨v3, n3, y3, e3, t3⟩ := hf 3 _ rfl
  obtain ⟨i0, r0, _, w0⟩ := DataW.trod_int Try.underlying26 t0
  obtain ⟨i1, r1, _, w1⟩ := DataW.trod_int Try.underlying3 t1
  obtain ⟨b2, r2, _⟩ := DataW.trod_bool Try.underlying4 t2
  obtain ⟨i3, r3, _, w3⟩ := DataW.trod_int Try.underlying3 t3
  simp only [List.cons.injEq, and_true] at r0 r1 r2 r3
  subst r0 r1 r2 r3
  match cs, hl with
  | [c0, c1, c2, c3], _ =>
    simp only [List.getElem?_cons_zero, List.getElem?_cons_succ, Option.some.injEq] at e0 e1 e2 e3
    subst e0 e1 e2 e3
    exact ⟨⟨i0, i1, b2, i3⟩, rfl, lit_u64 w0, lit_ok w1, lit_ok w3⟩
def EntsIn (w : World) (v : Value) (l : List Ent) : Prop := EntsAt w v l ∧ ∀ x ∈ l, EntOk x
theorem open_entsV {H : Type} {enc : TypeId × Value → H} {W : World} {spare : Nat → Bool} {held : Bool} {v : Value} {d : DataW H} {p : List MemPlace} (hv : Value.okWide Try.prog W .any 0 22 v)
    (h : DataW.Trod enc Try.prog W 0 spare held 22 v d p) : ∃ l : List Ent, EntsIn W v l := by
  obtain ⟨css, h1, h2⟩ := open_rows (size := 4) (Pc := fun cs => ∃ x : Ent, cs = x.cells ∧ EntOk x) Try.underlying22 (by kernel_rfl) (by omega) (fun fuel cs y hl hy => open_ent_cells hl hy) hv h
  obtain ⟨l, rfl, hl⟩ := choose_map Ent.cells EntOk css (fun c hc => (h2 c hc).2)
  exact ⟨l, by unfold EntsAt entC; rw [List.flatMap_def]; simpa using h1, hl⟩
theorem open_entV {H : Type} {enc : TypeId × Value → H} {W : World} {spare : Nat → Bool} {held : Bool} {v : Value} {d : DataW H} {p : List MemPlace} (hv : Value.okWide Try.prog W .any 0 28 v)
    (h : DataW.Trod enc Try.prog W 0 spare held 28 v d p) : ∃ e : Ent, v = e.agg ∧ EntOk e := by
  obtain ⟨cs, rfl, hs⟩ := okWide_struct Try.underlying28 hv
  obtain ⟨fuel, hf⟩ := h
  have hl : cs.toList.length = 4 := by rw [Array.length_toList, hs]; kernel_rfl
  obtain ⟨e, he, ho⟩ := open_ent_cells hl hf
  refine ⟨e, ?_, ho⟩
  have h2 : cs = e.cells.toArray := by rw [← he]
  rw [h2]; rfl
end Go.Proofs.Ytnophehonkojaaa
