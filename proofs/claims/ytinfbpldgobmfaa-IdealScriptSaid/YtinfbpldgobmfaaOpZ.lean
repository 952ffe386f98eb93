/-
  Texts put together: YtinfbpldgobmfaaOpen, YtinfbpldgobmfaaOpen2, YtinfbpldgobmfaaOpen3, YtinfbpldgobmfaaOpenO, YtinfbpldgobmfaaOpenP.
-/
import Derived.Test.YtinfbpldgobmfaaRows
import Derived.Test.YtinfbpldgobmfaaBase
import Derived.WalkKit
import Derived.ProofKit
import Derived.OpenShut
import Derived.ShutString
import Derived.ChangeOld
import Derived.Below
import Derived.Deep.Slices
import Derived.Deep.Fields
import Derived.ChangeSame
import Derived.Test.YtinfbpldgobmfaaSrt
import Derived.Test.YtinfbpldgobmfaaIdT
namespace Go.Proofs.Ytinfbpldgobmfaa
open Go.ChangeShapes Go.WideShapes Go.ChangeAt Go.RowKit Go.Deep

theorem own : ownKnob Try.prog.godebug = none := by kernel_rfl
theorem laidOut : laidOutB Try.prog = true := by kernel_rfl

section
variable {H : Type} {enc : TypeId × Value → H} {P : Program} {W : World} {spare : Nat → Bool} {held : Bool}

/-- a slice whose elements are read: their cells, each of which has what its reading says -/
theorem open_rows {t e : TypeId} {size : Nat} (Pc : List Value → Prop) (ht : P.underlying t = some (.slice e)) (hC : P.cellsOf e = size) (hs : 0 < size)
    (helem : ∀ (fuel : Nat) (cs : List Value) (y : DataW H × List MemPlace), cs.length = size → DataW.trod enc P W 0 spare held fuel e cs = some y → Pc cs)
    {v : Value} {d : DataW H} {p : List MemPlace} (hv : Value.okWide P W .any 0 t v) (h : DataW.Trod enc P W 0 spare held t v d p) :
    ∃ css : List (List Value), ReadsAt W size v css.length css.flatten ∧ ∀ c, c ∈ css → c.length = size ∧ Pc c := by
  obtain ⟨a0, len0, cap0, rfl⟩ := okWide_slice ht hv
  obtain ⟨fuel, hf⟩ := h
  rcases open_slice ht hf with ⟨hcs, _⟩ | ⟨a, len, cap, m, n, D, Pl, hcs, hb, hl, hm, hmm, hx, hi⟩
  · simp [Value.cells] at hcs
    obtain ⟨rfl, rfl, rfl⟩ := hcs
    exact ⟨[], ⟨by simp, none, 0, rfl, by simp, by simp, fun h => absurd h (by simp)⟩, by simp⟩
  · simp [Value.cells] at hcs
    obtain ⟨rfl, rfl, rfl⟩ := hcs
    rw [hC] at hi
    have hlm : len0 ≤ m := by rw [hmm]; split <;> omega
    have hex : ∀ k : Nat, k ≤ len0 → ∃ css : List (List Value), css.length = k ∧ (∀ c, c ∈ css → c.length = size ∧ Pc c) ∧ ∀ j u, css.flatten[j]? = some u → W.cell? (a.add j) = some u := by
      intro k
      induction k with
      | zero => exact fun _ => ⟨[], rfl, by simp, by simp⟩
      | succ k ih =>
        intro hk
        obtain ⟨css, h1, h2, h3⟩ := ih (by omega)
        obtain ⟨cs', hc', ht'⟩ := hi k (by omega)
        obtain ⟨_, hcl, hat⟩ := World.cells?_some hc'
        refine ⟨css ++ [cs'], by simp [h1], ?_, ?_⟩
        · intro c hc
          rcases List.mem_append.1 hc with h | h
          · exact h2 c h
          · rw [List.mem_singleton.1 h]; exact ⟨hcl, helem n cs' _ hcl ht'⟩
        · intro j u hu
          have hfl : css.flatten.length = k * size := by rw [flat_len css (fun x hx => (h2 x hx).1), h1]
          rw [List.flatten_append, List.flatten_singleton] at hu
          by_cases hj : j < k * size
          · rw [List.getElem?_append_left (by omega)] at hu; exact h3 j u hu
          · rw [List.getElem?_append_right (by omega), hfl] at hu
            have hjl : j - k * size < size := by
              rcases Nat.lt_or_ge (j - k * size) size with h | h
              · exact h
              · rw [List.getElem?_eq_none (by omega)] at hu; cases hu
            have h4 := hat (j - k * size) hjl
            rw [Go.Deep.add_add] at h4
            rw [show j = k * size + (j - k * size) by omega, h4, hu]
    obtain ⟨css, h1, h2, h3⟩ := hex len0 (Nat.le_refl _)
    have hfl : css.flatten.length = len0 * size := by rw [flat_len css (fun x hx => (h2 x hx).1), h1]
    refine ⟨css, ⟨by rw [hfl, h1], some a, cap0, by rw [h1], by omega, hm, fun h0 => ?_⟩, h2⟩
    rw [h1] at h0
    have hlen : 0 < css.flatten.length := by rw [hfl]; exact Nat.mul_pos h0 hs
    have hc0 := h3 0 _ (List.getElem?_eq_getElem hlen)
    have hspot : a.spot = none := by
      have e : a.add 0 = a := by unfold Addr.add; simp
      rw [e] at hc0
      cases hs : a.spot with
      | none => rfl
      | some x =>
        unfold World.cell? at hc0
        split at hc0
        · simp [hs] at hc0
        · cases hc0
    obtain ⟨b, o, s⟩ := a
    simp only at hspot
    subst hspot
    exact ⟨b, o, rfl, fun j u hu => by rw [← addr_add_lit]; exact h3 j u hu⟩

/-- a struct of one-cell fields: each field's own reading -/
theorem struct_fields {e : TypeId} {fs : Array Field} {fuel : Nat} {cs : List Value} {y : DataW H × List MemPlace} (he : P.underlying e = some (.struct fs)) (hone : oneCellFields P fs = true) (hlen : cs.length = fs.size)
    (h : DataW.trod enc P W 0 spare held fuel e cs = some y) :
    ∀ (j : Nat) (f : Field), fs[j]? = some f → ∃ (v : Value) (n : Nat) (y : DataW H × List MemPlace), cs[j]? = some v ∧ DataW.trod enc P W 0 spare held n f.type [v] = some y := by
  obtain ⟨ys, n', hn', hy, _, hyl, hf⟩ := DataW.trod_struct he h
  intro j f hj
  obtain ⟨ho, hk⟩ := hone_of hone j f hj
  have hjl : j < fs.size := (Array.getElem?_eq_some_iff.1 hj).1
  have h1 := hf j f hj
  rw [ho, hk] at h1
  have hone' : (cs.drop j).take 1 = [cs[j]'(by omega)] := by
    rw [List.drop_eq_getElem_cons (by omega)]; rfl
  rw [hone'] at h1
  have hys : ys[j]? = some (ys[j]'(by omega)) := List.getElem?_eq_getElem (by omega)
  exact ⟨cs[j]'(by omega), _, _, List.getElem?_eq_getElem (by omega), h1.trans hys⟩

theorem lit_bd {n : Int} (h : (Lit.int .i64 n).wf = true) : -9223372036854775808 ≤ n ∧ n ≤ 9223372036854775807 := by
  simp [Lit.wf, IntKind.min, IntKind.max, IntKind.signed, IntKind.bits] at h
  omega

/-- a list of cells, each of which is f of something -/
theorem choose_map {α β : Type} (f : β → α) (Q : β → Prop) : ∀ (l : List α), (∀ x, x ∈ l → ∃ b, x = f b ∧ Q b) → ∃ bs : List β, l = bs.map f ∧ ∀ b, b ∈ bs → Q b
  | [], _ => ⟨[], rfl, by simp⟩
  | x :: l, h => by
    obtain ⟨b, hb, hq⟩ := h x (List.mem_cons_self)
    obtain ⟨bs, h1, h2⟩ := choose_map f Q l (fun y hy => h y (List.mem_cons_of_mem _ hy))
    exact ⟨b :: bs, by simp [hb, h1], by intro c hc; rcases List.mem_cons.1 hc with rfl | hc; exact hq; exact h2 c hc⟩

theorem flat_single {β : Type} (f : β → Value) : ∀ l : List β, (l.map fun n => [f n]).flatten = l.map f
  | [] => rfl
  | a :: l => by simp only [List.map_cons, List.flatten_cons, flat_single f l]; rfl

def IntOk (n : Int) : Prop := -9223372036854775808 ≤ n ∧ n ≤ 9223372036854775807
theorem lit_ok {n : Int} (h : (Lit.int .i64 n).wf = true) : IntOk n := lit_bd h
/-- ints that came in -/
def IntsAt (w : World) (v : Value) (zs : List Int) : Prop := ReadsAt w 1 v zs.length (zs.map (Value.int .i64)) ∧ ∀ n ∈ zs, IntOk n
theorem open_intsV {t e : TypeId} (ht : P.underlying t = some (.slice e)) (he : P.underlying e = some (.int .i64)) (hC : P.cellsOf e = 1) {v : Value} {d : DataW H} {p : List MemPlace} (hv : Value.okWide P W .any 0 t v)
    (h : DataW.Trod enc P W 0 spare held t v d p) : ∃ zs : List Int, IntsAt W v zs := by
  obtain ⟨css, h1, h2⟩ := open_rows (Pc := fun cs => ∃ n : Int, cs = [.int .i64 n] ∧ IntOk n) ht hC (by omega) (fun fuel cs y _ hy => by
    obtain ⟨n, rfl, _, hw⟩ := DataW.trod_int he hy
    exact ⟨n, rfl, lit_bd hw⟩) hv h
  obtain ⟨zs, rfl, hz⟩ := choose_map (fun n : Int => [Value.int .i64 n]) IntOk css (fun c hc => (h2 c hc).2)
  refine ⟨zs, ?_, hz⟩
  rw [flat_single (Value.int .i64) zs] at h1
  simpa using h1
end
end Go.Proofs.Ytinfbpldgobmfaa
namespace Go.Proofs.Ytinfbpldgobmfaa
open Go.ChangeShapes Go.WideShapes Go.ChangeAt Go.RowKit Go.Deep

theorem open_boolsV {H : Type} {enc : TypeId × Value → H} {P : Program} {W : World} {spare : Nat → Bool} {held : Bool} {t e : TypeId} (ht : P.underlying t = some (.slice e)) (he : P.underlying e = some .bool) (hC : P.cellsOf e = 1) {v : Value} {d : DataW H} {p : List MemPlace} (hv : Value.okWide P W .any 0 t v)
    (h : DataW.Trod enc P W 0 spare held t v d p) : ∃ bs : List Bool, ReadsAt W 1 v bs.length (bs.map Value.bool) := by
  obtain ⟨css, h1, h2⟩ := open_rows (Pc := fun cs => ∃ b : Bool, cs = [.bool b]) ht hC (by omega) (fun fuel cs y _ hy => by
    obtain ⟨b, rfl, _⟩ := DataW.trod_bool he hy
    exact ⟨b, rfl⟩) hv h
  obtain ⟨bs, rfl, _⟩ := choose_map (fun b : Bool => [Value.bool b]) (fun _ => True) css (fun c hc => by obtain ⟨b, hb⟩ := (h2 c hc).2; exact ⟨b, hb, trivial⟩)
  refine ⟨bs, ?_⟩
  rw [flat_single Value.bool bs] at h1
  simpa using h1
end Go.Proofs.Ytinfbpldgobmfaa
namespace Go.Proofs.Ytinfbpldgobmfaa
set_option linter.unusedSimpArgs false
open Go.ChangeShapes Go.WideShapes Go.ChangeAt Go.RowKit Go.Deep

section
variable {H : Type} {enc : TypeId × Value → H} {P : Program} {W : World} {spare : Nat → Bool} {held : Bool}
/-- a slice whose elements are read: their cells, each of which has what its reading says -/
theorem open_rows_in {t e : TypeId} {size : Nat} (Pc : List Value → Prop) (ht : P.underlying t = some (.slice e)) (hC : P.cellsOf e = size) (hs : 0 < size)
    (helem : ∀ (fuel : Nat) (cs : List Value) (y : DataW H × List MemPlace), cs.length = size → DataW.trod enc P W 0 spare held fuel e cs = some y → Pc cs)
    {v : Value} {d : DataW H × List MemPlace} (hv : ∃ a l c, v = .slice a l c) {fuel : Nat} (hf : DataW.trod enc P W 0 spare held fuel t [v] = some d) :
    ∃ css : List (List Value), ReadsAt W size v css.length css.flatten ∧ ∀ c, c ∈ css → c.length = size ∧ Pc c := by
  obtain ⟨a0, len0, cap0, rfl⟩ := hv
  obtain ⟨d1, d2⟩ := d
  rcases open_slice ht hf with ⟨hcs, _⟩ | ⟨a, len, cap, m, n, D, Pl, hcs, hb, hl, hm, hmm, hx, hi⟩
  · simp [Value.cells] at hcs
    obtain ⟨rfl, rfl, rfl⟩ := hcs
    exact ⟨[], ⟨by simp, none, 0, rfl, by simp, by simp, fun h => absurd h (by simp)⟩, by simp⟩
  · simp [Value.cells] at hcs
    obtain ⟨rfl, rfl, rfl⟩ := hcs
    rw [hC] at hi
    have hlm : len0 ≤ m := by rw [hmm]; split <;> omega
    have hex : ∀ k : Nat, k ≤ len0 → ∃ css : List (List Value), css.length = k ∧ (∀ c, c ∈ css → c.length = size ∧ Pc c) ∧ ∀ j u, css.flatten[j]? = some u → W.cell? (a.add j) = some u := by
      intro k
      induction k with
      | zero => exact fun _ => ⟨[], rfl, by simp, by simp⟩
      | succ k ih =>
        intro hk
        obtain ⟨css, h1, h2, h3⟩ := ih (by omega)
        obtain ⟨cs', hc', ht'⟩ := hi k (by omega)
        obtain ⟨_, hcl, hat⟩ := World.cells?_some hc'
        refine ⟨css ++ [cs'], by simp [h1], ?_, ?_⟩
        · intro c hc
          rcases List.mem_append.1 hc with h | h
          · exact h2 c h
          · rw [List.mem_singleton.1 h]; exact ⟨hcl, helem n cs' _ hcl ht'⟩
        · intro j u hu
          have hfl : css.flatten.length = k * size := by rw [flat_len css (fun x hx => (h2 x hx).1), h1]
          rw [List.flatten_append, List.flatten_singleton] at hu
          by_cases hj : j < k * size
          · rw [List.getElem?_append_left (by omega)] at hu; exact h3 j u hu
          · rw [List.getElem?_append_right (by omega), hfl] at hu
            have hjl : j - k * size < size := by
              rcases Nat.lt_or_ge (j - k * size) size with h | h
              · exact h
              · rw [List.getElem?_eq_none (by omega)] at hu; cases hu
            have h4 := hat (j - k * size) hjl
            rw [Go.Deep.add_add] at h4
            rw [show j = k * size + (j - k * size) by omega, h4, hu]
    obtain ⟨css, h1, h2, h3⟩ := hex len0 (Nat.le_refl _)
    have hfl : css.flatten.length = len0 * size := by rw [flat_len css (fun x hx => (h2 x hx).1), h1]
    refine ⟨css, ⟨by rw [hfl, h1], some a, cap0, by rw [h1], by omega, hm, fun h0 => ?_⟩, h2⟩
    rw [h1] at h0
    have hlen : 0 < css.flatten.length := by rw [hfl]; exact Nat.mul_pos h0 hs
    have hc0 := h3 0 _ (List.getElem?_eq_getElem hlen)
    have hspot : a.spot = none := by
      have e : a.add 0 = a := by unfold Addr.add; simp
      rw [e] at hc0
      cases hs : a.spot with
      | none => rfl
      | some x =>
        unfold World.cell? at hc0
        split at hc0
        · simp [hs] at hc0
        · cases hc0
    obtain ⟨b, o, s⟩ := a
    simp only at hspot
    subst hspot
    exact ⟨b, o, rfl, fun j u hu => by rw [← addr_add_lit]; exact h3 j u hu⟩

theorem trod_slice_val {t e : TypeId} (ht : P.underlying t = some (.slice e)) {v : Value} {d : DataW H × List MemPlace} {fuel : Nat} (hf : DataW.trod enc P W 0 spare held fuel t [v] = some d) : ∃ a l c, v = .slice a l c := by
  rcases open_slice ht hf with ⟨hcs, _⟩ | ⟨a, len, cap, m, n, D, Pl, hcs, _⟩
  · exact ⟨_, _, _, by simpa using hcs⟩
  · exact ⟨_, _, _, by simpa using hcs⟩
theorem trod_bools {t e : TypeId} (ht : P.underlying t = some (.slice e)) (he : P.underlying e = some .bool) (hC : P.cellsOf e = 1) {v : Value} {d : DataW H × List MemPlace} {fuel : Nat} (hf : DataW.trod enc P W 0 spare held fuel t [v] = some d) :
    ∃ bs : List Bool, ReadsAt W 1 v bs.length (bs.map Value.bool) := by
  obtain ⟨css, h1, h2⟩ := open_rows_in (Pc := fun cs => ∃ b : Bool, cs = [.bool b]) ht hC (by omega) (fun fuel cs y _ hy => by
    obtain ⟨b, rfl, _⟩ := DataW.trod_bool he hy
    exact ⟨b, rfl⟩) (trod_slice_val ht hf) hf
  obtain ⟨bs, rfl, _⟩ := choose_map (fun b : Bool => [Value.bool b]) (fun _ => True) css (fun c hc => by obtain ⟨b, hb⟩ := (h2 c hc).2; exact ⟨b, hb, trivial⟩)
  refine ⟨bs, ?_⟩
  rw [flat_single Value.bool bs] at h1
  simpa using h1
end

/-- an act of chapter 9 as it came in -/
structure ActD where
  dop : Int
  at_ : Int
  n : Int
  short : Bool
  kv : Value
  keep : List Bool
def ActD.cells (x : ActD) : List Value := [.int .i64 x.dop, .int .i64 x.at_, .int .i64 x.n, .bool x.short, x.kv]
def ActD.ok (w : World) (x : ActD) : Prop := IntOk x.dop ∧ IntOk x.at_ ∧ IntOk x.n ∧ ReadsAt w 1 x.kv x.keep.length (x.keep.map Value.bool)
def ActsD (w : World) (v : Value) (l : List ActD) : Prop := ReadsAt w 5 v l.length (l.map ActD.cells).flatten ∧ ∀ x ∈ l, x.ok w

end Go.Proofs.Ytinfbpldgobmfaa
namespace Go.Proofs.Ytinfbpldgobmfaa
set_option linter.unusedSimpArgs false
set_option linter.unusedVariables false
open Go.ChangeShapes Go.WideShapes Go.ChangeAt Go.RowKit Go.Deep

theorem struct_piecesO {H : Type} {enc : TypeId × Value → H} {P : Program} {W : World} {spare : Nat → Bool} {held : Bool} {e : TypeId} {fs : Array Field} {fuel : Nat} {cs : List Value} {y : DataW H × List MemPlace} (he : P.underlying e = some (.struct fs))
    (h : DataW.trod enc P W 0 spare held fuel e cs = some y) (j : Nat) (f : Field) (hj : fs[j]? = some f) (o k : Nat) (ho : f.offset = o) (hk : P.cellsOf f.type = k) :
    ∃ (n : Nat) (y : DataW H × List MemPlace), DataW.trod enc P W 0 spare held n f.type ((cs.drop o).take k) = some y := by
  obtain ⟨ys, n', _, _, _, hyl, hf⟩ := DataW.trod_struct he h
  have hjl : j < fs.size := (Array.getElem?_eq_some_iff.1 hj).1
  have h1 := hf j f hj
  rw [ho, hk, List.getElem?_eq_getElem (by omega)] at h1
  exact ⟨_, _, h1⟩
theorem lit_u64O {n : Int} (h : (Lit.int .u64 n).wf = true) : U64 n := by
  have h1 : IntKind.min .u64 = 0 := rfl
  have h2 : IntKind.max .u64 = 18446744073709551615 := rfl
  simp only [Lit.wf, h1, h2, Bool.and_eq_true, decide_eq_true_eq] at h
  unfold U64
  omega
theorem lit_u8O {n : Int} (h : (Lit.int .u8 n).wf = true) : 0 ≤ n ∧ n < 256 := by
  have h1 : IntKind.min .u8 = 0 := rfl
  have h2 : IntKind.max .u8 = 255 := rfl
  simp only [Lit.wf, h1, h2, Bool.and_eq_true, decide_eq_true_eq] at h
  omega
section
variable {H : Type} {enc : TypeId × Value → H} {W : World} {spare : Nat → Bool} {held : Bool}
theorem trod_bytes {v : Value} {d : DataW H × List MemPlace} {fuel : Nat} (hf : DataW.trod enc Try.prog W 0 spare held fuel 28 [v] = some d) : ∃ bs : List UInt8, BytesAt W v bs := by
  obtain ⟨css, h1, h2⟩ := open_rows_in (size := 1) (Pc := fun cs => ∃ b : UInt8, cs = [cellB b]) Try.underlying28 (by kernel_rfl) (by omega) (fun fuel cs y _ hy => by
    obtain ⟨n, rfl, _, hw⟩ := DataW.trod_int Try.underlying5 hy
    have hb := lit_u8O hw
    refine ⟨UInt8.ofNat n.toNat, ?_⟩
    unfold cellB
    congr 2
    simp
    omega) (trod_slice_val Try.underlying28 hf) hf
  obtain ⟨bs, rfl, _⟩ := choose_map (fun b : UInt8 => [cellB b]) (fun _ => True) css (fun c hc => by obtain ⟨b, hb⟩ := (h2 c hc).2; exact ⟨b, hb, trivial⟩)
  refine ⟨bs, ?_⟩
  rw [flat_single cellB bs] at h1
  unfold BytesAt
  simpa using h1
theorem trod_words {v : Value} {d : DataW H × List MemPlace} {fuel : Nat} (hf : DataW.trod enc Try.prog W 0 spare held fuel 25 [v] = some d) : ∃ zs : List Int, WsAt W v zs ∧ ∀ z ∈ zs, U64 z := by
  obtain ⟨css, h1, h2⟩ := open_rows_in (size := 1) (Pc := fun cs => ∃ n : Int, cs = [.int .u64 n] ∧ U64 n) Try.underlying25 (by kernel_rfl) (by omega) (fun fuel cs y _ hy => by
    obtain ⟨n, rfl, _, hw⟩ := DataW.trod_int Try.underlying26 hy
    exact ⟨n, rfl, lit_u64O hw⟩) (trod_slice_val Try.underlying25 hf) hf
  obtain ⟨zs, rfl, hz⟩ := choose_map (fun n : Int => [Value.int .u64 n]) U64 css (fun c hc => (h2 c hc).2)
  refine ⟨zs, ?_, hz⟩
  rw [flat_single (Value.int .u64) zs] at h1
  unfold WsAt
  simpa using h1
/-- an order, and a reply, as they came in -/
def OrdIn (W : World) (cs : List Value) (o : OV) : Prop := ∃ dv, cs = [.int .i64 o.k, .int .u64 o.a, dv, .int .i64 o.m] ∧ BytesAt W dv o.d ∧ IntOk o.k ∧ U64 o.a ∧ IntOk o.m
def RepIn (W : World) (cs : List Value) (r : RV) : Prop := ∃ dv av, cs = [.int .i64 r.k, .int .i64 r.c, dv, .bool r.y, av] ∧ BytesAt W dv r.d ∧ WsAt W av r.z ∧ IntOk r.k ∧ IntOk r.c ∧ ∀ z ∈ r.z, U64 z
theorem open_ord_cells {fuel : Nat} {cs : List Value} {y : DataW H × List MemPlace} (hl : cs.length = 4) (hy : DataW.trod enc Try.prog W 0 spare held fuel 31 cs = some y) : ∃ o, OrdIn W cs o := by
  have hf := struct_piecesO Try.underlying31 hy
  obtain ⟨n0, y0, t0⟩ := hf 0 _ rfl 0 1 rfl (by kernel_rfl)
  obtain ⟨n1, y1, t1⟩ := hf 1 _ rfl 1 1 rfl (by kernel_rfl)
  obtain ⟨n2, y2, t2⟩ := hf 2 _ rfl 2 1 rfl (by kernel_rfl)
  obtain ⟨n3, y3, t3⟩ := hf 3 _ rfl 3 1 rfl (by kernel_rfl)
  match cs, hl with
  | [c0, c1, c2, c3], _ =>
    simp only [List.drop_succ_cons, List.drop_zero, List.take_succ_cons, List.take_zero] at t0 t1 t2 t3
    obtain ⟨i0, r0, _, w0⟩ := DataW.trod_int Try.underlying3 t0
    obtain ⟨i1, r1, _, w1⟩ := DataW.trod_int Try.underlying26 t1
    obtain ⟨bs, w2⟩ := trod_bytes t2
    obtain ⟨i3, r3, _, w3⟩ := DataW.trod_int Try.underlying3 t3
    simp only [List.cons.injEq, and_true] at r0 r1 r3
    subst r0 r1 r3
    exact ⟨⟨i0, i1, bs, i3⟩, c2, rfl, w2, lit_ok w0, lit_u64O w1, lit_ok w3⟩
theorem open_rep_cells {fuel : Nat} {cs : List Value} {y : DataW H × List MemPlace} (hl : cs.length = 5) (hy : DataW.trod enc Try.prog W 0 spare held fuel 34 cs = some y) : ∃ r, RepIn W cs r := by
  have hf := struct_piecesO Try.underlying34 hy
  obtain ⟨n0, y0, t0⟩ := hf 0 _ rfl 0 1 rfl (by kernel_rfl)
  obtain ⟨n1, y1, t1⟩ := hf 1 _ rfl 1 1 rfl (by kernel_rfl)
  obtain ⟨n2, y2, t2⟩ := hf 2 _ rfl 2 1 rfl (by kernel_rfl)
  obtain ⟨n3, y3, t3⟩ := hf 3 _ rfl 3 1 rfl (by kernel_rfl)
  obtain ⟨n4, y4, t4⟩ := hf 4 _ rfl 4 1 rfl (by kernel_rfl)
  match cs, hl with
  | [c0, c1, c2, c3, c4], _ =>
    simp only [List.drop_succ_cons, List.drop_zero, List.take_succ_cons, List.take_zero] at t0 t1 t2 t3 t4
    obtain ⟨i0, r0, _, w0⟩ := DataW.trod_int Try.underlying3 t0
    obtain ⟨i1, r1, _, w1⟩ := DataW.trod_int Try.underlying32 t1
    obtain ⟨bs, w2⟩ := trod_bytes t2
    obtain ⟨b3, r3, _⟩ := DataW.trod_bool Try.underlying4 t3
    obtain ⟨zs, w4, w5⟩ := trod_words t4
    simp only [List.cons.injEq, and_true] at r0 r1 r3
    subst r0 r1 r3
    exact ⟨⟨i0, i1, bs, b3, zs⟩, c2, c4, rfl, w2, w4, lit_ok w0, lit_ok w1, w5⟩
set_option maxRecDepth 20000 in
theorem open_ordV {v : Value} {d : DataW H} {p : List MemPlace} (hv : Value.okWide Try.prog W .any 0 31 v) (h : DataW.Trod enc Try.prog W 0 spare held 31 v d p) : ∃ o, ∃ dv, v = OV.agg o dv ∧ BytesAt W dv o.d ∧ IntOk o.k ∧ U64 o.a ∧ IntOk o.m := by
  obtain ⟨cs, rfl, hs⟩ := okWide_struct Try.underlying31 hv
  obtain ⟨fuel, hf⟩ := h
  have hl : cs.toList.length = 4 := by rw [Array.length_toList, hs]; kernel_rfl
  obtain ⟨o, dv, ho, h1⟩ := open_ord_cells hl hf
  refine ⟨o, dv, ?_, h1⟩
  have h2 : cs = [Value.int .i64 o.k, .int .u64 o.a, dv, .int .i64 o.m].toArray := by rw [← ho]
  rw [h2]; rfl
set_option maxRecDepth 20000 in
theorem open_repV {v : Value} {d : DataW H} {p : List MemPlace} (hv : Value.okWide Try.prog W .any 0 34 v) (h : DataW.Trod enc Try.prog W 0 spare held 34 v d p) : ∃ r, ∃ dv av, v = RV.agg r dv av ∧ BytesAt W dv r.d ∧ WsAt W av r.z ∧ IntOk r.k ∧ IntOk r.c ∧ ∀ z ∈ r.z, U64 z := by
  obtain ⟨cs, rfl, hs⟩ := okWide_struct Try.underlying34 hv
  obtain ⟨fuel, hf⟩ := h
  have hl : cs.toList.length = 5 := by rw [Array.length_toList, hs]; kernel_rfl
  obtain ⟨r, dv, av, hr, h1⟩ := open_rep_cells hl hf
  refine ⟨r, dv, av, ?_, h1⟩
  have h2 : cs = [Value.int .i64 r.k, .int .i64 r.c, dv, .bool r.y, av].toArray := by rw [← hr]
  rw [h2]; rfl
end
end Go.Proofs.Ytinfbpldgobmfaa
namespace Go.Proofs.Ytinfbpldgobmfaa
set_option linter.unusedSimpArgs false
set_option linter.unusedVariables false
open Go.ChangeShapes Go.WideShapes Go.ChangeAt Go.RowKit Go.Deep

/-- a pair, with the values that hold its bytes and addresses -/
structure PR where
  o : OV
  r : RV
  p : Int
  dv : Value
  rv : Value
  av : Value
def PR.cells (x : PR) : List Value := [.int .i64 x.o.k, .int .u64 x.o.a, x.dv, .int .i64 x.o.m, .int .i64 x.r.k, .int .i64 x.r.c, x.rv, .bool x.r.y, x.av, .int .i64 x.p]
def PRsAt (w : World) (v : Value) (l : List PR) : Prop := ReadsAt w 10 v l.length (l.flatMap PR.cells)
def PROk (W : World) (x : PR) : Prop := BytesAt W x.dv x.o.d ∧ U64 x.o.a ∧ BytesAt W x.rv x.r.d ∧ WsAt W x.av x.r.z ∧ ∀ z ∈ x.r.z, U64 z
def PRsIn (W : World) (v : Value) (l : List PR) : Prop := PRsAt W v l ∧ ∀ x ∈ l, PROk W x
set_option maxRecDepth 20000 in
theorem open_pr_cells {H : Type} {enc : TypeId × Value → H} {W : World} {spare : Nat → Bool} {held : Bool} {fuel : Nat} {cs : List Value} {y : DataW H × List MemPlace} (hl : cs.length = 10)
    (hy : DataW.trod enc Try.prog W 0 spare held fuel 50 cs = some y) : ∃ x : PR, cs = x.cells ∧ PROk W x := by
  have hf := struct_piecesO Try.underlying50 hy
  obtain ⟨n0, y0, t0⟩ := hf 0 _ rfl 0 4 rfl (by kernel_rfl)
  obtain ⟨n1, y1, t1⟩ := hf 1 _ rfl 4 5 rfl (by kernel_rfl)
  obtain ⟨n2, y2, t2⟩ := hf 2 _ rfl 9 1 rfl (by kernel_rfl)
  match cs, hl with
  | [c0, c1, c2, c3, c4, c5, c6, c7, c8, c9], _ =>
    simp only [List.drop_succ_cons, List.drop_zero, List.take_succ_cons, List.take_zero] at t0 t1 t2
    obtain ⟨o, dv, ho, hb, _, ha, _⟩ := open_ord_cells rfl t0
    obtain ⟨r, rv, av, hr, hb2, hz, _, _, hu⟩ := open_rep_cells rfl t1
    obtain ⟨i2, r2, _, w2⟩ := DataW.trod_int Try.underlying3 t2
    simp only [List.cons.injEq, and_true] at ho hr r2
    obtain ⟨rfl, rfl, rfl, rfl⟩ := ho
    obtain ⟨rfl, rfl, rfl, rfl, rfl⟩ := hr
    subst r2
    exact ⟨⟨o, r, i2, c2, c6, c8⟩, rfl, hb, ha, hb2, hz, hu⟩
set_option maxRecDepth 20000 in
theorem open_prs {H : Type} {enc : TypeId × Value → H} {W : World} {spare : Nat → Bool} {held : Bool} {v : Value} {d : DataW H} {p : List MemPlace} (hv : Value.okWide Try.prog W .any 0 45 v)
    (h : DataW.Trod enc Try.prog W 0 spare held 45 v d p) : ∃ l : List PR, PRsIn W v l := by
  obtain ⟨css, h1, h2⟩ := open_rows (size := 10) (Pc := fun cs => ∃ x : PR, cs = x.cells ∧ PROk W x) Try.underlying45 (by kernel_rfl) (by omega) (fun fuel cs y hl hy => open_pr_cells hl hy) hv h
  obtain ⟨l, rfl, hl⟩ := choose_map PR.cells (fun x => PROk W x) css (fun c hc => (h2 c hc).2)
  exact ⟨l, by unfold PRsAt; rw [List.flatMap_def]; simpa using h1, hl⟩
theorem prC_get : ∀ (es : List PR) (i : Nat) (h : i < es.length) (j : Nat), j < 10 → (es.flatMap PR.cells)[i * 10 + j]? = es[i].cells[j]? := by
  intro es
  induction es with
  | nil => intro i h; simp at h
  | cons r rs ih =>
    intro i h j hj
    match i with
    | 0 =>
      simp only [List.flatMap_cons, Nat.zero_mul, Nat.zero_add, List.getElem_cons_zero]
      rw [List.getElem?_append_left (by simp [PR.cells]; omega)]
    | i + 1 =>
      have := ih i (by simpa using h) j hj
      simp only [List.flatMap_cons, List.getElem_cons_succ]
      rw [List.getElem?_append_right (by simp [PR.cells]; omega), ← this]
      congr 1
      simp [PR.cells]; omega
theorem PRsAt.all {W w : World} {v : Value} {l : List PR} {H : HL} (h : PRsAt W v l) (hH : Holds w (H ++ allOf W)) : PRsAt w v l := ReadsAt.keep h fun p u hu => all_cell hH hu
theorem PRsAt.val {w : World} {v : Value} {l : List PR} (h : PRsAt w v l) : ∃ A c, v = .slice A l.length c := by obtain ⟨_, A, c, h, _⟩ := h; exact ⟨A, c, h⟩
theorem PRsAt.act {w : World} {l : List PR} {A : Option Addr} {n c : Nat} (h : PRsAt w (.slice A n c) l) (h0 : 0 < l.length) : ∃ b o, A = some ⟨b, o, none⟩ ∧ ∀ i (hi : i < l.length),
    w.cell? ⟨b, o + i * 10, none⟩ = some (.int .i64 l[i].o.k) ∧ w.cell? ⟨b, o + i * 10 + 1, none⟩ = some (.int .u64 l[i].o.a) ∧ w.cell? ⟨b, o + i * 10 + 2, none⟩ = some l[i].dv ∧ w.cell? ⟨b, o + i * 10 + 3, none⟩ = some (.int .i64 l[i].o.m) ∧
    w.cell? ⟨b, o + i * 10 + 4, none⟩ = some (.int .i64 l[i].r.k) ∧ w.cell? ⟨b, o + i * 10 + 5, none⟩ = some (.int .i64 l[i].r.c) ∧ w.cell? ⟨b, o + i * 10 + 6, none⟩ = some l[i].rv ∧ w.cell? ⟨b, o + i * 10 + 7, none⟩ = some (.bool l[i].r.y) ∧ w.cell? ⟨b, o + i * 10 + 8, none⟩ = some l[i].av ∧
    w.cell? ⟨b, o + i * 10 + 9, none⟩ = some (.int .i64 l[i].p) := by
  obtain ⟨_, A', c', hv, _, _, hc⟩ := h
  injection hv with h1 _ _
  subst h1
  obtain ⟨b, o, rfl, hk⟩ := hc h0
  refine ⟨b, o, rfl, fun i hi => ?_⟩
  have key : ∀ j u, j < 10 → l[i].cells[j]? = some u → w.cell? ⟨b, o + i * 10 + j, none⟩ = some u := fun j u hj hu => by
    have := hk (i * 10 + j) u (by rw [prC_get l i hi j hj]; exact hu)
    rw [← Nat.add_assoc] at this
    exact this
  exact ⟨by simpa using key 0 _ (by omega) rfl, key 1 _ (by omega) rfl, key 2 _ (by omega) rfl, key 3 _ (by omega) rfl, key 4 _ (by omega) rfl, key 5 _ (by omega) rfl, key 6 _ (by omega) rfl, key 7 _ (by omega) rfl, key 8 _ (by omega) rfl, key 9 _ (by omega) rfl⟩
/-- what comes in is there, whatever is beside it -/
theorem BytesAt.allFr {W : World} {v : Value} {d : List UInt8} (h : BytesAt W v d) : FrBytes (allOf W) v d := fun w hw => ReadsAt.keep h fun p u hu => all_cell (H := []) (by simpa using hw) hu
theorem WsAt.allFr {W : World} {v : Value} {z : List Int} (h : WsAt W v z) : FrWs (allOf W) v z := fun w hw => ReadsAt.keep h fun p u hu => all_cell (H := []) (by simpa using hw) hu
end Go.Proofs.Ytinfbpldgobmfaa
