/-
  What the arguments that come in are: orders, replies.
-/
import Derived.Test.YtinfbpldgobmfaaOpen3
import Derived.Test.YtinfbpldgobmfaaSrt
import Derived.Test.YtinfbpldgobmfaaIdT
namespace Go.Proofs.Ytinfbpldgobmfaa
set_option linter.unusedSimpArgs false
set_option linter.unusedVariables false
open Go.ChangeShapes Go.WideShapes Go.ChangeAt Go.RowKit Go.Deep

theorem struct_piecesO {H : Type} {enc : TypeId × Value → H} {P : Program} {W : World} {spare : Nat → Bool} {held : Bool} {e : TypeId} {fs : Array Field} {fuel : Nat} {cs : List Value} {y : DataW H × List MemPlace} (he : P.underlying e = some (.struct fs))
    (h : DataW.trod enc P W 0 spare held fuel e cs = some y) (j : Nat) (f : Field) (hj : fs[j]? = some f) (o k : Nat) (ho : f.offset = o) (hk : P.cellsOf f.type = k) :
    ∃ (n : Nat) (y : DataW H × List MemPlace), DataW.trod enc P W 0 spare held n f.type ((cs.drop o).take k) = some y := by
  obtain ⟨ys, n', _, _, _, hyl, hf⟩ := DataW.trod_struct he h
  have hjl : j < fs.size := (Array.getElem?_eq_some_iff.1 hj).1
  have h1 := hf j f hj
  rw [ho, hk, List.getElem?_eq_getElem (by omega)] at h1
  exact ⟨_, _, h1⟩
theorem lit_u64O {n : Int} (h : (Lit.int .u64 n).wf = true) : U64 n := by
  have h1 : IntKind.min .u64 = 0 := rfl
  have h2 : IntKind.max .u64 = 18446744073709551615 := rfl
  simp only [Lit.wf, h1, h2, Bool.and_eq_true, decide_eq_true_eq] at h
  unfold U64
  omega
theorem lit_u8O {n : Int} (h : (Lit.int .u8 n).wf = true) : 0 ≤ n ∧ n < 256 := by
  have h1 : IntKind.min .u8 = 0 := rfl
  have h2 : IntKind.max .u8 = 255 := rfl
  simp only [Lit.wf, h1, h2, Bool.and_eq_true, decide_eq_true_eq] at h
  omega
section
variable {H : Type} {enc : TypeId × Value → H} {W : World} {spare : Nat → Bool} {held : Bool}
theorem trod_bytes {v : Value} {d : DataW H × List MemPlace} {fuel : Nat} (hf : DataW.trod enc Try.prog W 0 spare held fuel 28 [v] = some d) : ∃ bs : List UInt8, BytesAt W v bs := by
  obtain ⟨css, h1, h2⟩ := open_rows_in (size := 1) (Pc := fun cs => ∃ b : UInt8, cs = [cellB b]) Try.underlying28 (by kernel_rfl) (by omega) (fun fuel cs y _ hy => by
    obtain ⟨n, rfl, _, hw⟩ := DataW.trod_int Try.underlying5 hy
    have hb := lit_u8O hw
    refine ⟨UInt8.ofNat n.toNat, ?_⟩
    unfold cellB
    congr 2
    simp
    omega) (trod_slice_val Try.underlying28 hf) hf
  obtain ⟨bs, rfl, _⟩ := choose_map (fun b : UInt8 => [cellB b]) (fun _ => True) css (fun c hc => by obtain ⟨b, hb⟩ := (h2 c hc).2; exact ⟨b, hb, trivial⟩)
  refine ⟨bs, ?_⟩
  rw [flat_single cellB bs] at h1
  unfold BytesAt
  simpa using h1
theorem trod_words {v : Value} {d : DataW H × List MemPlace} {fuel : Nat} (hf : DataW.trod enc Try.prog W 0 spare held fuel 25 [v] = some d) : ∃ zs : List Int, WsAt W v zs ∧ ∀ z ∈ zs, U64 z := by
  obtain ⟨css, h1, h2⟩ := open_rows_in (size := 1) (Pc := fun cs => ∃ n : Int, cs = [.int .u64 n] ∧ U64 n) Try.underlying25 (by kernel_rfl) (by omega) (fun fuel cs y _ hy => by
    obtain ⟨n, rfl, _, hw⟩ := DataW.trod_int Try.underlying26 hy
    exact ⟨n, rfl, lit_u64O hw⟩) (trod_slice_val Try.underlying25 hf) hf
  obtain ⟨zs, rfl, hz⟩ := choose_map (fun n : Int => [Value.int .u64 n]) U64 css (fun c hc => (h2 c hc).2)
  refine ⟨zs, ?_, hz⟩
  rw [flat_single (Value.int .u64) zs] at h1
  unfold WsAt
  simpa using h1
/-- an order, and a reply, as they came in -/
def OrdIn (W : World) (cs : List Value) (o : OV) : Prop := ∃ dv, cs = [.int .i64 o.k, .int .u64 o.a, dv, .int .i64 o.m] ∧ BytesAt W dv o.d ∧ IntOk o.k ∧ U64 o.a ∧ IntOk o.m
def RepIn (W : World) (cs : List Value) (r : RV) : Prop := ∃ dv av, cs = [.int .i64 r.k, .int .i64 r.c, dv, .bool r.y, av] ∧ BytesAt W dv r.d ∧ WsAt W av r.z ∧ IntOk r.k ∧ IntOk r.c ∧ ∀ z ∈ r.z, U64 z
theorem open_ord_cells {fuel : Nat} {cs : List Value} {y : DataW H × List MemPlace} (hl : cs.length = 4) (hy : DataW.trod enc Try.prog W 0 spare held fuel 31 cs = some y) : ∃ o, OrdIn W cs o := by
  have hf := struct_piecesO Try.underlying31 hy
  obtain ⟨n0, y0, t0⟩ := hf 0 _ rfl 0 1 rfl (by kernel_rfl)
  obtain ⟨n1, y1, t1⟩ := hf 1 _ rfl 1 1 rfl (by kernel_rfl)
  obtain ⟨n2, y2, t2⟩ := hf 2 _ rfl 2 1 rfl (by kernel_rfl)
  obtain ⟨n3, y3, t3⟩ := hf 3 _ rfl 3 1 rfl (by kernel_rfl)
  match cs, hl with
  | [c0, c1, c2, c3], _ =>
    simp only [List.drop_succ_cons, List.drop_zero, List.take_succ_cons, List.take_zero] at t0 t1 t2 t3
    obtain ⟨i0, r0, _, w0⟩ := DataW.trod_int Try.underlying3 t0
    obtain ⟨i1, r1, _, w1⟩ := DataW.trod_int Try.underlying26 t1
    obtain ⟨bs, w2⟩ := trod_bytes t2
    obtain ⟨i3, r3, _, w3⟩ := DataW.trod_int Try.underlying3 t3
    simp only [List.cons.injEq, and_true] at r0 r1 r3
    subst r0 r1 r3
    exact ⟨⟨i0, i1, bs, i3⟩, c2, rfl, w2, lit_ok w0, lit_u64O w1, lit_ok w3⟩
theorem open_rep_cells {fuel : Nat} {cs : List Value} {y : DataW H × List MemPlace} (hl : cs.length = 5) (hy : DataW.trod enc Try.prog W 0 spare held fuel 34 cs = some y) : ∃ r, RepIn W cs r := by
  have hf := struct_piecesO Try.underlying34 hy
  obtain ⟨n0, y0, t0⟩ := hf 0 _ rfl 0 1 rfl (by kernel_rfl)
  obtain ⟨n1, y1, t1⟩ := hf 1 _ rfl 1 1 rfl (by kernel_rfl)
  obtain ⟨n2, y2, t2⟩ := hf 2 _ rfl 2 1 rfl (by kernel_rfl)
  obtain ⟨n3, y3, t3⟩ := hf 3 _ rfl 3 1 rfl (by kernel_rfl)
  obtain ⟨n4, y4, t4⟩ := hf 4 _ rfl 4 1 rfl (by kernel_rfl)
  match cs, hl with
  | [c0, c1, c2, c3, c4], _ =>
    simp only [List.drop_succ_cons, List.drop_zero, List.take_succ_cons, List.take_zero] at t0 t1 t2 t3 t4
    obtain ⟨i0, r0, _, w0⟩ := DataW.trod_int Try.underlying3 t0
    obtain ⟨i1, r1, _, w1⟩ := DataW.trod_int Try.underlying32 t1
    obtain ⟨bs, w2⟩ := trod_bytes t2
    obtain ⟨b3, r3, _⟩ := DataW.trod_bool Try.underlying4 t3
    obtain ⟨zs, w4, w5⟩ := trod_words t4
    simp only [List.cons.injEq, and_true] at r0 r1 r3
    subst r0 r1 r3
    exact ⟨⟨i0, i1, bs, b3, zs⟩, c2, c4, rfl, w2, w4, lit_ok w0, lit_ok w1, w5⟩
set_option maxRecDepth 20000 in
theorem open_ordV {v : Value} {d : DataW H} {p : List MemPlace} (hv : Value.okWide Try.prog W .any 0 31 v) (h : DataW.Trod enc Try.prog W 0 spare held 31 v d p) : ∃ o, ∃ dv, v = OV.agg o dv ∧ BytesAt W dv o.d ∧ IntOk o.k ∧ U64 o.a ∧ IntOk o.m := by
  obtain ⟨cs, rfl, hs⟩ := okWide_struct Try.underlying31 hv
  obtain ⟨fuel, hf⟩ := h
  have hl : cs.toList.length = 4 := by rw [Array.length_toList, hs]; kernel_rfl
  obtain ⟨o, dv, ho, h1⟩ := open_ord_cells hl hf
  refine ⟨o, dv, ?_, h1⟩
  have h2 : cs = [Value.int .i64 o.k, .int .u64 o.a, dv, .int .i64 o.m].toArray := by rw [← ho]
  rw [h2]; rfl
set_option maxRecDepth 20000 in
theorem open_repV {v : Value} {d : DataW H} {p : List MemPlace} (hv : Value.okWide Try.prog W .any 0 34 v) (h : DataW.Trod enc Try.prog W 0 spare held 34 v d p) : ∃ r, ∃ dv av, v = RV.agg r dv av ∧ BytesAt W dv r.d ∧ WsAt W av r.z ∧ IntOk r.k ∧ IntOk r.c ∧ ∀ z ∈ r.z, U64 z := by
  obtain ⟨cs, rfl, hs⟩ := okWide_struct Try.underlying34 hv
  obtain ⟨fuel, hf⟩ := h
  have hl : cs.toList.length = 5 := by rw [Array.length_toList, hs]; kernel_rfl
  obtain ⟨r, dv, av, hr, h1⟩ := open_rep_cells hl hf
  refine ⟨r, dv, av, ?_, h1⟩
  have h2 : cs = [Value.int .i64 r.k, .int .i64 r.c, dv, .bool r.y, av].toArray := by rw [← hr]
  rw [h2]; rfl
end
end Go.Proofs.Ytinfbpldgobmfaa
