/-
  The acts of chapter 21 that come in.
-/
import Derived.Test.YteaeahhjkagbdaaL21A
namespace Go.Proofs.Yteaeahhjkagbdaa
open Go.RowKit

open Go.ChangeShapes Go.WideShapes Go.ChangeAt Go.Deep
set_option maxRecDepth 20000 in
theorem open_acts21 {H : Type} {enc : TypeId × Value → H} {W : World} {spare : Nat → Bool} {held : Bool} {v : Value} {d : DataW H} {p : List MemPlace} (hv : Value.okWide Try.prog W .any 0 22 v)
    (h : DataW.Trod enc Try.prog W 0 spare held 22 v d p) : ∃ l : List ActB, ActsB W v l := by
  obtain ⟨css, h1, h2⟩ := open_rows (size := 6) (Pc := fun cs => ∃ x : ActB, cs = x.cells ∧ x.ok) Try.underlying22 (by kernel_rfl) (by omega) (fun fuel cs y hl hy => by
    have hf := struct_fields Try.underlying30 (by kernel_rfl) (by rw [hl]; rfl) hy
    obtain ⟨v0, n0, y0, e0, t0⟩ := hf 0 _ rfl
    obtain ⟨v1, n1, y1, e1, t1⟩ := hf 1 _ rfl
    obtain ⟨v2, n2, y2, e2, t2⟩ := hf 2 _ rfl
    obtain ⟨v3, n3, y3, e3, t3⟩ := hf 3 _ rfl
    obtain ⟨v4, n4, y4, e4, t4⟩ := hf 4 _ rfl
    obtain ⟨v5, n5, y5, e5, t5⟩ := hf 5 _ rfl
    obtain ⟨b0, r0, _⟩ := DataW.trod_bool Try.underlying4 t0
    obtain ⟨b1, r1, _⟩ := DataW.trod_bool Try.underlying4 t1
    obtain ⟨b2, r2, _⟩ := DataW.trod_bool Try.underlying4 t2
    obtain ⟨i3, r3, _, w3⟩ := DataW.trod_int Try.underlying3 t3
    obtain ⟨i4, r4, _, w4⟩ := DataW.trod_int Try.underlying3 t4
    obtain ⟨i5, r5, _, w5⟩ := DataW.trod_int Try.underlying28 t5
    simp only [List.cons.injEq, and_true] at r0 r1 r2 r3 r4 r5
    subst r0 r1 r2 r3 r4 r5
    match cs, hl with
    | [c0, c1, c2, c3, c4, c5], _ =>
      simp only [List.getElem?_cons_zero, List.getElem?_cons_succ, Option.some.injEq] at e0 e1 e2 e3 e4 e5
      subst e0 e1 e2 e3 e4 e5
      exact ⟨⟨b0, b1, b2, i3, i4, i5⟩, rfl, And.intro (lit_ok w3) (And.intro (lit_ok w4) (lit_ok w5))⟩) hv h
  obtain ⟨l, rfl, hl⟩ := choose_map ActB.cells ActB.ok css (fun c hc => (h2 c hc).2)
  exact ⟨l, by simpa using h1, hl⟩
end Go.Proofs.Yteaeahhjkagbdaa
