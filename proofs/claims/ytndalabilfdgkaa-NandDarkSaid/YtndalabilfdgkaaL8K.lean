/-
  Chapter 8: chips that are nil; acts; NandKeeps.
-/
import Derived.Test.YtndalabilfdgkaaL8
import Derived.Test.YtndalabilfdgkaaOpen
namespace Go.Proofs.Ytndalabilfdgkaa
set_option linter.unusedSimpArgs false
set_option linter.unusedVariables false
section
open Go.ChangeShapes Go.WideShapes Go.ChangeAt Go.RowKit Go.Deep
/-- an act of chapter 8 as it came in -/
structure ActK where
  dop : Int
  blk : Int
  pg : Int
  n : Int
  step : Bool
  short : Bool
def ActK.cells (x : ActK) : List Value := [.int .i64 x.dop, .int .i64 x.blk, .int .i64 x.pg, .int .i64 x.n, .bool x.step, .bool x.short]
def ActsK (w : World) (v : Value) (l : List ActK) : Prop := ReadsAt w 6 v l.length (l.map ActK.cells).flatten
set_option maxRecDepth 20000 in
theorem open_acts8 {H : Type} {enc : TypeId × Value → H} {W : World} {spare : Nat → Bool} {held : Bool} {v : Value} {d : DataW H} {p : List MemPlace} (hv : Value.okWide Try.prog W .any 0 22 v)
    (h : DataW.Trod enc Try.prog W 0 spare held 22 v d p) : ∃ l : List ActK, ActsK W v l := by
  obtain ⟨css, h1, h2⟩ := open_rows (size := 6) (Pc := fun cs => ∃ x : ActK, cs = x.cells ∧ True) Try.underlying22 (by kernel_rfl) (by omega) (fun fuel cs y hl hy => by
    have hf := struct_fields Try.underlying36 (by kernel_rfl) (by rw [hl]; rfl) hy
    obtain ⟨v0, n0, y0, e0, t0⟩ := hf 0 _ rfl
    obtain ⟨v1, n1, y1, e1, t1⟩ := hf 1 _ rfl
    obtain ⟨v2, n2, y2, e2, t2⟩ := hf 2 _ rfl
    obtain ⟨v3, n3, y3, e3, t3⟩ := hf 3 _ rfl
    obtain ⟨v4, n4, y4, e4, t4⟩ := hf 4 _ rfl
    obtain ⟨v5, n5, y5, e5, t5⟩ := hf 5 _ rfl
    obtain ⟨i0, r0, _, w0⟩ := DataW.trod_int Try.underlying3 t0
    obtain ⟨i1, r1, _, w1⟩ := DataW.trod_int Try.underlying3 t1
    obtain ⟨i2, r2, _, w2⟩ := DataW.trod_int Try.underlying3 t2
    obtain ⟨i3, r3, _, w3⟩ := DataW.trod_int Try.underlying3 t3
    obtain ⟨b4, r4, _⟩ := DataW.trod_bool Try.underlying4 t4
    obtain ⟨b5, r5, _⟩ := DataW.trod_bool Try.underlying4 t5
    simp only [List.cons.injEq, and_true] at r0 r1 r2 r3 r4 r5
    subst r0 r1 r2 r3 r4 r5
    match cs, hl with
    | [c0, c1, c2, c3, c4, c5], _ =>
      simp only [List.getElem?_cons_zero, List.getElem?_cons_succ, Option.some.injEq] at e0 e1 e2 e3 e4 e5
      subst e0 e1 e2 e3 e4 e5
      exact ⟨⟨i0, i1, i2, i3, b4, b5⟩, rfl, trivial⟩) hv h
  obtain ⟨l, rfl, hl⟩ := choose_map ActK.cells (fun _ => True) css (fun c hc => (h2 c hc).2)
  exact ⟨l, by simpa [ActsK] using h1⟩
end
open Go.RowKit

section
variable {w : World} {Fr : HL}
set_option maxRecDepth 20000 in
theorem nbegin_nil (good : Bool) (hH : Holds w Fr) : Calls Try.prog 29 #[.pointer none, .bool good] w (fun e w' => ∃ ve He G, e = .returned (.tuple #[.agg #[.int .i64 0, .int .i64 0, .int .i64 0, .int .u8 0], ve]) ∧ IsErr ve 1 He ∧ Holds w' (He ++ (G ++ Fr)) ∧ Grew w w') := by
  have hres : Try.f29.results = #[ResultVar.cell 4 47, ResultVar.tmp 5] := by rfl
  have hHA := hH.alloc (.cells #[.int .i64 0, .int .i64 0, .int .i64 0, .int .u8 0] 47)
  have hGA := (Grew.refl w).alloc (.cells #[.int .i64 0, .int .i64 0, .int .i64 0, .int .u8 0] 47)
  go_enter Try.func29, Try.ntmps29
  go_wp2_with fail
  refine (nwrong_any 1 _ _ (by omega) hHA).mono ?_
  rintro e w1 ⟨ve, He, rfl, he, hH1, hg1⟩
  have HE := Lib.hid he; clear he
  have hH2 : Holds w1 ((w.heap.size, .cells #[.int .i64 0, .int .i64 0, .int .i64 0, .int .u8 0] 47) :: (He ++ ([] ++ Fr))) := hH1.sub (by (repeat' (first | refine sub_append ?_ ?_ | refine sub_cons ?_ ?_ | exact sub_nil)); all_goals first | (intro p hp; simp only [List.mem_append, List.mem_cons, hp, true_or, or_true]) | simp only [List.mem_append, List.mem_cons, true_or, or_true]) (fun b => by simp only [keyc_append, keyc_cons, keyc_nil]; omega)
  have hG1 := hGA.trans hg1
  generalize w.heap.size = t at *
  obtain ⟨z0, z1, z2, z3, g0, g1, g2, g3⟩ := hH2.get4
  clear hHA hH1
  go_wp2_with fail
  have hS := hH2.set4 (.int .i64 0) (.int .i64 0) (.int .i64 0) (.int .u8 0)
  have hGS := hG1.set4 t (.int .i64 0) (.int .i64 0) (.int .i64 0) (.int .u8 0)
  generalize (((w1.setCell ⟨t, 0, none⟩ (.int .i64 0)).setCell ⟨t, 1, none⟩ (.int .i64 0)).setCell ⟨t, 2, none⟩ (.int .i64 0)).setCell ⟨t, 3, none⟩ (.int .u8 0) = wf at *
  obtain ⟨u0, u1, u2, u3, _⟩ := hS.get4
  refine bodyPost_ret (v := .tuple #[.agg #[.int .i64 0, .int .i64 0, .int .i64 0, .int .u8 0], ve]) ?_ rfl ⟨ve, He, [], rfl, HE.out, hS.tail, hGS⟩
  unfold results
  rw [hres]
  go_simp
set_option maxRecDepth 20000 in
theorem nread_nil (k p : Int) (hH : Holds w Fr) : Calls Try.prog 15 #[.pointer none, .int .i64 k, .int .i64 p] w (fun e w' => ∃ ve He, e = .returned (.tuple #[.slice none 0 0, ve]) ∧ IsErr ve 1 He ∧ Holds w' (He ++ Fr) ∧ Grew w w') := by
  have k1 := err_ne
  have HB := Lib.hid (nbegin_nil (w := w) false hH)
  go_enter Try.func15, Try.ntmps15
  go_wp2_with fail
  refine (nthere_nil k w).mono ?_
  rintro e wx ⟨rfl, rfl⟩
  go_wp2_with fail
  refine HB.out.mono ?_
  rintro e w1 ⟨ve, He, G, rfl, he, hH1, hg1⟩
  have HE := Lib.hid he
  obtain ⟨b9, s9, rfl, _⟩ := isErrP8 he (show (1 : Int) ≠ 0 by decide)
  have hHA := hH1.alloc (.cells #[.int .i64 0, .int .i64 0, .int .i64 0, .int .u8 0] 47)
  clear he HB
  go_wp2_with fail
  go_ret2
  exact ⟨_, He, rfl, HE.out, hHA.sub (by (repeat' (first | refine sub_append ?_ ?_ | refine sub_cons ?_ ?_ | exact sub_nil)); all_goals first | (intro p hp; simp only [List.mem_append, List.mem_cons, hp, true_or, or_true]) | simp only [List.mem_append, List.mem_cons, true_or, or_true]) (fun b => by simp only [keyc_append, keyc_cons, keyc_nil]; omega), hg1.alloc _⟩
set_option maxRecDepth 20000 in
theorem nerase_nil (k : Int) (hH : Holds w Fr) : Calls Try.prog 14 #[.pointer none, .int .i64 k] w (RetErr 1 w Fr) := by
  have k1 := err_ne
  have HB := Lib.hid (nbegin_nil (w := w) false hH)
  go_enter Try.func14, Try.ntmps14
  go_wp2_with fail
  refine (nthere_nil k w).mono ?_
  rintro e wx ⟨rfl, rfl⟩
  go_wp2_with fail
  refine HB.out.mono ?_
  rintro e w1 ⟨ve, He, G, rfl, he, hH1, hg1⟩
  have HE := Lib.hid he
  obtain ⟨b9, s9, rfl, _⟩ := isErrP8 he (show (1 : Int) ≠ 0 by decide)
  have hHA := hH1.alloc (.cells #[.int .i64 0, .int .i64 0, .int .i64 0, .int .u8 0] 47)
  clear he HB
  go_wp2_with fail
  go_ret
  exact ⟨_, He, rfl, HE.out, hHA.sub (by (repeat' (first | refine sub_append ?_ ?_ | refine sub_cons ?_ ?_ | exact sub_nil)); all_goals first | (intro p hp; simp only [List.mem_append, List.mem_cons, hp, true_or, or_true]) | simp only [List.mem_append, List.mem_cons, true_or, or_true]) (fun b => by simp only [keyc_append, keyc_cons, keyc_nil]; omega), hg1.alloc _⟩
set_option maxRecDepth 20000 in
theorem non_nil (w : World) : Calls Try.prog 18 #[.pointer none] w fun e w' => e = .returned (.bool false) ∧ w = w' := by
  go_enter Try.func18, Try.ntmps18
  go_wp2_with fail
  go_ret
  exact ⟨rfl, rfl⟩
set_option maxRecDepth 20000 in
theorem nops_nil (w : World) : Calls Try.prog 19 #[.pointer none] w fun e w' => e = .returned (.int .i64 0) ∧ w = w' := by
  go_enter Try.func19, Try.ntmps19
  go_wp2_with fail
  go_ret
  exact ⟨rfl, rfl⟩
end

/-- page 0 of block 0 has raw, and goes on having it -/
def KInv (c : CM) (raw : List UInt8) (N : Int) : Prop := c.P = 4 ∧ c.Z = 128 ∧ c.blocks.length = 4 ∧ c.ms = [] ∧ c.on = true ∧ c.ops ≤ N ∧ (∀ x ∈ c.blocks, x.failed = false ∧ x.mark = false) ∧ ∃ x, c.blocks[0]? = some x ∧ x.pages.getD 0 [] = raw ∧ x.next = 1 ∧ x.wear = 0
theorem kinv_set {c : CM} {raw : List UInt8} {N : Int} (h : KInv c raw N) {i : Nat} (hi : 1 ≤ i) {x' : CB} (hx : x'.failed = false ∧ x'.mark = false) {o q m : Int} (ho : o ≤ N + 1) : KInv { c.setB i x' with ops := o, programs := q, misuse := m } raw (N + 1) := by
  obtain ⟨h1, h2, h3, h4, h5, h6, h7, x, hx0, hr⟩ := h
  refine ⟨h1, h2, by simpa [CM.setB] using h3, h4, h5, ho, fun z hz => ?_, x, ?_, hr⟩
  · rcases List.mem_or_eq_of_mem_set hz with h | h
    · exact h7 z h
    · rw [h]; exact hx
  · show (c.blocks.set i x')[0]? = some x
    rw [List.getElem?_set_ne (by omega)]; exact hx0
theorem kinv_more {c : CM} {raw : List UInt8} {N : Int} (h : KInv c raw N) : KInv c raw (N + 1) := by
  obtain ⟨h1, h2, h3, h4, h5, h6, h7, h8⟩ := h
  exact ⟨h1, h2, h3, h4, h5, by omega, h7, h8⟩
theorem kinv_ops {c : CM} {raw : List UInt8} {N : Int} (h : KInv c raw N) : KInv { c with ops := c.ops + 1 } raw (N + 1) := by
  obtain ⟨h1, h2, h3, h4, h5, h6, h7, h8⟩ := h
  exact ⟨h1, h2, h3, h4, h5, by show c.ops + 1 ≤ N + 1; omega, h7, h8⟩
theorem kinv_prog {c : CM} {raw raw2 : List UInt8} {N : Int} (h : KInv c raw N) {i : Nat} (hi : 1 ≤ i) {x : CB} (hx : c.blocks[i]? = some x) : KInv (c.prog0 i x x.next raw2).1 raw (N + 1) := by
  have hxm := h.2.2.2.2.2.2.1 x (List.mem_of_getElem? hx)
  by_cases hp : 0 ≤ x.next ∧ x.next ≤ (c.P : Int) - 1
  · rw [prog_good h.2.2.2.2.1 hp hxm.2 rfl]
    exact kinv_set h hi (x' := { x with pages := x.pages.set x.next.toNat raw2, next := x.next + 1 }) hxm (by have := h.2.2.2.2.2.1; omega)
  · rw [prog_out h.2.2.2.2.1 hp]; exact kinv_more h
theorem kinv_erase {c : CM} {raw : List UInt8} {N : Int} (h : KInv c raw N) {i : Nat} (hi : 1 ≤ i) {x : CB} (hx : c.blocks[i]? = some x) : KInv (c.erase0 i x).1 raw (N + 1) := by
  have hxm := h.2.2.2.2.2.2.1 x (List.mem_of_getElem? hx)
  rw [erase_good h.2.2.2.2.1 hxm.2]
  exact kinv_set h hi (x' := { x with pages := blankB c.P c.Z, next := 0, wear := x.wear + 1 }) hxm (by have := h.2.2.2.2.2.1; omega)
/-- before the loop -/
def kc0 : CM := CM.new 4 4 128 [] []
def kx0 : CB := CB.new 4 128 false
def kx1 (raw : List UInt8) : CB := { kx0 with pages := kx0.pages.set 0 raw, next := 1 }
def kc1 (raw : List UInt8) : CM := { kc0.setB 0 (kx1 raw) with ops := 1, programs := 1 }
def kc2 (raw : List UInt8) : CM := { kc1 raw with ops := 2, misuse := 1 }
theorem k_e1 (raw : List UInt8) : kc0.prog0 0 kx0 0 raw = (kc1 raw, 0) := prog_good (c := kc0) rfl (by show (0:Int) ≤ 0 ∧ (0:Int) ≤ 4 - 1; omega) rfl rfl
theorem k_e2 (raw : List UInt8) : (kc1 raw).prog0 0 (kx1 raw) 0 raw = (kc2 raw, 6) := prog_order (c := kc1 raw) rfl (by show (0:Int) ≤ 0 ∧ (0:Int) ≤ 4 - 1; omega) (.inr (by show (0:Int) ≠ 1; decide))
theorem k_inv (raw : List UInt8) : KInv (kc2 raw) raw 2 := by
  refine ⟨rfl, rfl, rfl, rfl, rfl, Int.le_refl _, fun x hx => ?_, kx1 raw, rfl, rfl, rfl, rfl⟩
  rcases List.mem_or_eq_of_mem_set hx with h | h
  · obtain ⟨k, _, rfl⟩ := List.mem_map.1 h
    exact ⟨rfl, by simp [CB.new]⟩
  · rw [h]; exact ⟨rfl, rfl⟩
end Go.Proofs.Ytndalabilfdgkaa
