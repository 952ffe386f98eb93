/-
  What the arguments that come in are: the acts of chapter 13.
-/
import Derived.Test.YtnophehonkojaaaOpenE
namespace Go.Proofs.Ytnophehonkojaaa
set_option linter.unusedSimpArgs false
open Go.ChangeShapes Go.WideShapes Go.ChangeAt Go.RowKit Go.Deep

/-- a struct: the cells of each field, read by its type -/
theorem struct_pieces {H : Type} {enc : TypeId × Value → H} {P : Program} {W : World} {spare : Nat → Bool} {held : Bool} {e : TypeId} {fs : Array Field} {fuel : Nat} {cs : List Value} {y : DataW H × List MemPlace} (he : P.underlying e = some (.struct fs))
    (h : DataW.trod enc P W 0 spare held fuel e cs = some y) (j : Nat) (f : Field) (hj : fs[j]? = some f) (o k : Nat) (ho : f.offset = o) (hk : P.cellsOf f.type = k) :
    ∃ (n : Nat) (y : DataW H × List MemPlace), DataW.trod enc P W 0 spare held n f.type ((cs.drop o).take k) = some y := by
  obtain ⟨ys, n', _, _, _, hyl, hf⟩ := DataW.trod_struct he h
  have hjl : j < fs.size := (Array.getElem?_eq_some_iff.1 hj).1
  have h1 := hf j f hj
  rw [ho, hk, List.getElem?_eq_getElem (by omega)] at h1
  exact ⟨_, _, h1⟩

structure A13 where
  op : Int
  n : Int
  e : Ent
  d : Bool
def A13.cells (a : A13) : List Value := [.int .i64 a.op, .int .i64 a.n, .int .u64 a.e.addr, .int .i64 a.e.page, .bool a.e.dirty, .int .i64 a.e.seq, .bool a.d]
def A13s (w : World) (v : Value) (l : List A13) : Prop := ReadsAt w 7 v l.length (l.flatMap A13.cells)
def ActsIn13 (w : World) (v : Value) (l : List A13) : Prop := A13s w v l ∧ ∀ x ∈ l, EntOk x.e
theorem open_act13_cells {H : Type} {enc : TypeId × Value → H} {W : World} {spare : Nat → Bool} {held : Bool} {fuel : Nat} {cs : List Value} {y : DataW H × List MemPlace} (hl : cs.length = 7)
    (hy : DataW.trod enc Try.prog W 0 spare held fuel 43 cs = some y) : ∃ a : A13, cs = a.cells ∧ EntOk a.e := by
  have hf := struct_pieces Try.underlying43 hy
  obtain ⟨n0, y0, t0⟩ := hf 0 _ rfl 0 1 rfl (by kernel_rfl)
  obtain ⟨n1, y1, t1⟩ := hf 1 _ rfl 1 1 rfl (by kernel_rfl)
  obtain ⟨n2, y2, t2⟩ := hf 2 _ rfl 2 4 rfl (by kernel_rfl)
  obtain ⟨n3, y3, t3⟩ := hf 3 _ rfl 6 1 rfl (by kernel_rfl)
  match cs, hl with
  | [c0, c1, c2, c3, c4, c5, c6], _ =>
    simp only [List.drop_succ_cons, List.drop_zero, List.take_succ_cons, List.take_zero] at t0 t1 t2 t3
    obtain ⟨i0, r0, _, w0⟩ := DataW.trod_int Try.underlying3 t0
    obtain ⟨i1, r1, _, w1⟩ := DataW.trod_int Try.underlying3 t1
    obtain ⟨e, re, we⟩ := open_ent_cells rfl t2
    obtain ⟨b3, r3, _⟩ := DataW.trod_bool Try.underlying4 t3
    unfold Ent.cells at re
    simp only [List.cons.injEq, and_true] at r0 r1 r3 re
    obtain ⟨q0, q1, q2, q3⟩ := re
    subst r0 r1 r3 q0 q1 q2 q3
    exact ⟨⟨i0, i1, e, b3⟩, rfl, we⟩
theorem open_acts13 {H : Type} {enc : TypeId × Value → H} {W : World} {spare : Nat → Bool} {held : Bool} {v : Value} {d : DataW H} {p : List MemPlace} (hv : Value.okWide Try.prog W .any 0 38 v)
    (h : DataW.Trod enc Try.prog W 0 spare held 38 v d p) : ∃ l : List A13, ActsIn13 W v l := by
  obtain ⟨css, h1, h2⟩ := open_rows (size := 7) (Pc := fun cs => ∃ x : A13, cs = x.cells ∧ EntOk x.e) Try.underlying38 (by kernel_rfl) (by omega) (fun fuel cs y hl hy => open_act13_cells hl hy) hv h
  obtain ⟨l, rfl, hl⟩ := choose_map A13.cells (fun x => EntOk x.e) css (fun c hc => (h2 c hc).2)
  exact ⟨l, by unfold A13s; rw [List.flatMap_def]; simpa using h1, hl⟩

theorem a13C_get : ∀ (es : List A13) (i : Nat) (h : i < es.length) (j : Nat), j < 7 → (es.flatMap A13.cells)[i * 7 + j]? = es[i].cells[j]? := by
  intro es
  induction es with
  | nil => intro i h; simp at h
  | cons r rs ih =>
    intro i h j hj
    match i with
    | 0 =>
      simp only [List.flatMap_cons, Nat.zero_mul, Nat.zero_add, List.getElem_cons_zero]
      rw [List.getElem?_append_left (by simp [A13.cells]; omega)]
    | i + 1 =>
      have := ih i (by simpa using h) j hj
      simp only [List.flatMap_cons, List.getElem_cons_succ]
      rw [List.getElem?_append_right (by simp [A13.cells]; omega), ← this]
      congr 1
      simp [A13.cells]; omega
theorem A13s.all {W w : World} {v : Value} {l : List A13} {H : HL} (h : A13s W v l) (hH : Holds w (H ++ allOf W)) : A13s w v l := ReadsAt.keep h fun p u hu => all_cell hH hu
theorem A13s.val {w : World} {v : Value} {l : List A13} (h : A13s w v l) : ∃ A c, v = .slice A l.length c := by obtain ⟨_, A, c, h, _⟩ := h; exact ⟨A, c, h⟩
theorem A13s.act {w : World} {l : List A13} {A : Option Addr} {n c : Nat} (h : A13s w (.slice A n c) l) (h0 : 0 < l.length) : ∃ b o, A = some ⟨b, o, none⟩ ∧ ∀ i (hi : i < l.length),
    w.cell? ⟨b, o + i * 7, none⟩ = some (.int .i64 l[i].op) ∧ w.cell? ⟨b, o + i * 7 + 1, none⟩ = some (.int .i64 l[i].n) ∧ w.cell? ⟨b, o + i * 7 + 2, none⟩ = some (.int .u64 l[i].e.addr) ∧ w.cell? ⟨b, o + i * 7 + 3, none⟩ = some (.int .i64 l[i].e.page) ∧
    w.cell? ⟨b, o + i * 7 + 4, none⟩ = some (.bool l[i].e.dirty) ∧ w.cell? ⟨b, o + i * 7 + 5, none⟩ = some (.int .i64 l[i].e.seq) ∧ w.cell? ⟨b, o + i * 7 + 6, none⟩ = some (.bool l[i].d) := by
  obtain ⟨_, A', c', hv, _, _, hc⟩ := h
  injection hv with h1 _ _
  subst h1
  obtain ⟨b, o, rfl, hk⟩ := hc h0
  refine ⟨b, o, rfl, fun i hi => ?_⟩
  have key : ∀ j u, j < 7 → l[i].cells[j]? = some u → w.cell? ⟨b, o + i * 7 + j, none⟩ = some u := fun j u hj hu => by
    have := hk (i * 7 + j) u (by rw [a13C_get l i hi j hj]; exact hu)
    rw [← Nat.add_assoc] at this
    exact this
  exact ⟨by simpa using key 0 _ (by omega) rfl, key 1 _ (by omega) rfl, key 2 _ (by omega) rfl, key 3 _ (by omega) rfl, key 4 _ (by omega) rfl, key 5 _ (by omega) rfl, key 6 _ (by omega) rfl⟩
end Go.Proofs.Ytnophehonkojaaa
