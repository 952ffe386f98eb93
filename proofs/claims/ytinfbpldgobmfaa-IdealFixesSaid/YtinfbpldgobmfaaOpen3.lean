/-
  What the arguments that come in are: slices within what is read; the acts of chapter 9.
-/
import Derived.Test.YtinfbpldgobmfaaOpen2
namespace Go.Proofs.Ytinfbpldgobmfaa
set_option linter.unusedSimpArgs false
open Go.ChangeShapes Go.WideShapes Go.ChangeAt Go.RowKit Go.Deep

section
variable {H : Type} {enc : TypeId × Value → H} {P : Program} {W : World} {spare : Nat → Bool} {held : Bool}
/-- a slice whose elements are read: their cells, each of which has what its reading says -/
theorem open_rows_in {t e : TypeId} {size : Nat} (Pc : List Value → Prop) (ht : P.underlying t = some (.slice e)) (hC : P.cellsOf e = size) (hs : 0 < size)
    (helem : ∀ (fuel : Nat) (cs : List Value) (y : DataW H × List MemPlace), cs.length = size → DataW.trod enc P W 0 spare held fuel e cs = some y → Pc cs)
    {v : Value} {d : DataW H × List MemPlace} (hv : ∃ a l c, v = .slice a l c) {fuel : Nat} (hf : DataW.trod enc P W 0 spare held fuel t [v] = some d) :
    ∃ css : List (List Value), ReadsAt W size v css.length css.flatten ∧ ∀ c, c ∈ css → c.length = size ∧ Pc c := by
  obtain ⟨a0, len0, cap0, rfl⟩ := hv
  obtain ⟨d1, d2⟩ := d
  rcases open_slice ht hf with ⟨hcs, _⟩ | ⟨a, len, cap, m, n, D, Pl, hcs, hb, hl, hm, hmm, hx, hi⟩
  · simp [Value.cells] at hcs
    obtain ⟨rfl, rfl, rfl⟩ := hcs
    exact ⟨[], ⟨by simp, none, 0, rfl, by simp, by simp, fun h => absurd h (by simp)⟩, by simp⟩
  · simp [Value.cells] at hcs
    obtain ⟨rfl, rfl, rfl⟩ := hcs
    rw [hC] at hi
    have hlm : len0 ≤ m := by rw [hmm]; split <;> omega
    have hex : ∀ k : Nat, k ≤ len0 → ∃ css : List (List Value), css.length = k ∧ (∀ c, c ∈ css → c.length = size ∧ Pc c) ∧ ∀ j u, css.flatten[j]? = some u → W.cell? (a.add j) = some u := by
      intro k
      induction k with
      | zero => exact fun _ => ⟨[], rfl, by simp, by simp⟩
      | succ k ih =>
        intro hk
        obtain ⟨css, h1, h2, h3⟩ := ih (by omega)
        obtain ⟨cs', hc', ht'⟩ := hi k (by omega)
        obtain ⟨_, hcl, hat⟩ := World.cells?_some hc'
        refine ⟨css ++ [cs'], by simp [h1], ?_, ?_⟩
        · intro c hc
          rcases List.mem_append.1 hc with h | h
          · exact h2 c h
          · rw [List.mem_singleton.1 h]; exact ⟨hcl, helem n cs' _ hcl ht'⟩
        · intro j u hu
          have hfl : css.flatten.length = k * size := by rw [flat_len css (fun x hx => (h2 x hx).1), h1]
          rw [List.flatten_append, List.flatten_singleton] at hu
          by_cases hj : j < k * size
          · rw [List.getElem?_append_left (by omega)] at hu; exact h3 j u hu
          · rw [List.getElem?_append_right (by omega), hfl] at hu
            have hjl : j - k * size < size := by
              rcases Nat.lt_or_ge (j - k * size) size with h | h
              · exact h
              · rw [List.getElem?_eq_none (by omega)] at hu; cases hu
            have h4 := hat (j - k * size) hjl
            rw [Go.Deep.add_add] at h4
            rw [show j = k * size + (j - k * size) by omega, h4, hu]
    obtain ⟨css, h1, h2, h3⟩ := hex len0 (Nat.le_refl _)
    have hfl : css.flatten.length = len0 * size := by rw [flat_len css (fun x hx => (h2 x hx).1), h1]
    refine ⟨css, ⟨by rw [hfl, h1], some a, cap0, by rw [h1], by omega, hm, fun h0 => ?_⟩, h2⟩
    rw [h1] at h0
    have hlen : 0 < css.flatten.length := by rw [hfl]; exact Nat.mul_pos h0 hs
    have hc0 := h3 0 _ (List.getElem?_eq_getElem hlen)
    have hspot : a.spot = none := by
      have e : a.add 0 = a := by unfold Addr.add; simp
      rw [e] at hc0
      cases hs : a.spot with
      | none => rfl
      | some x =>
        unfold World.cell? at hc0
        split at hc0
        · simp [hs] at hc0
        · cases hc0
    obtain ⟨b, o, s⟩ := a
    simp only at hspot
    subst hspot
    exact ⟨b, o, rfl, fun j u hu => by rw [← addr_add_lit]; exact h3 j u hu⟩

theorem trod_slice_val {t e : TypeId} (ht : P.underlying t = some (.slice e)) {v : Value} {d : DataW H × List MemPlace} {fuel : Nat} (hf : DataW.trod enc P W 0 spare held fuel t [v] = some d) : ∃ a l c, v = .slice a l c := by
  rcases open_slice ht hf with ⟨hcs, _⟩ | ⟨a, len, cap, m, n, D, Pl, hcs, _⟩
  · exact ⟨_, _, _, by simpa using hcs⟩
  · exact ⟨_, _, _, by simpa using hcs⟩
theorem trod_bools {t e : TypeId} (ht : P.underlying t = some (.slice e)) (he : P.underlying e = some .bool) (hC : P.cellsOf e = 1) {v : Value} {d : DataW H × List MemPlace} {fuel : Nat} (hf : DataW.trod enc P W 0 spare held fuel t [v] = some d) :
    ∃ bs : List Bool, ReadsAt W 1 v bs.length (bs.map Value.bool) := by
  obtain ⟨css, h1, h2⟩ := open_rows_in (Pc := fun cs => ∃ b : Bool, cs = [.bool b]) ht hC (by omega) (fun fuel cs y _ hy => by
    obtain ⟨b, rfl, _⟩ := DataW.trod_bool he hy
    exact ⟨b, rfl⟩) (trod_slice_val ht hf) hf
  obtain ⟨bs, rfl, _⟩ := choose_map (fun b : Bool => [Value.bool b]) (fun _ => True) css (fun c hc => by obtain ⟨b, hb⟩ := (h2 c hc).2; exact ⟨b, hb, trivial⟩)
  refine ⟨bs, ?_⟩
  rw [flat_single Value.bool bs] at h1
  simpa using h1
end

/-- an act of chapter 9 as it came in -/
structure ActD where
  dop : Int
  at_ : Int
  n : Int
  short : Bool
  kv : Value
  keep : List Bool
def ActD.cells (x : ActD) : List Value := [.int .i64 x.dop, .int .i64 x.at_, .int .i64 x.n, .bool x.short, x.kv]
def ActD.ok (w : World) (x : ActD) : Prop := IntOk x.dop ∧ IntOk x.at_ ∧ IntOk x.n ∧ ReadsAt w 1 x.kv x.keep.length (x.keep.map Value.bool)
def ActsD (w : World) (v : Value) (l : List ActD) : Prop := ReadsAt w 5 v l.length (l.map ActD.cells).flatten ∧ ∀ x ∈ l, x.ok w

end Go.Proofs.Ytinfbpldgobmfaa
