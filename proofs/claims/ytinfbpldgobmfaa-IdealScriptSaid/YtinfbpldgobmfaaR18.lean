/-
  Chapter 18's own answer: what may be at an address (blocks, places), as rows of cells that nobody writes to: facts of a pool.
-/
import Derived.Test.YtinfbpldgobmfaaBase
namespace Go.Proofs.Ytinfbpldgobmfaa
open Go.RowKit
set_option linter.unusedSimpArgs false
set_option linter.unusedVariables false

abbrev CB := List UInt8 × Bool
structure PV where
  a : Int
  n : Bool
  l : List CB
deriving DecidableEq, Inhabited
/-- with the values that hold them -/
abbrev CE := Value × CB
abbrev PE := Value × PV
def CE.cells (e : CE) : List Value := [e.1, .bool e.2.2]
def PE.cells (e : PE) : List Value := [.int .u64 e.2.a, .bool e.2.n, e.1]
def ceC (E : List CE) : List Value := E.flatMap CE.cells
def peC (E : List PE) : List Value := E.flatMap PE.cells
theorem tCans : SlT Try.prog 77 81 2 32 (.agg #[.slice none 0 0, .bool false]) := SlT.mk' (by kernel_rfl) (by kernel_rfl) (by rfl) (by decide)
theorem tPlaces : SlT Try.prog 74 79 3 40 (.agg #[.int .u64 0, .bool false, .slice none 0 0]) := SlT.mk' (by kernel_rfl) (by kernel_rfl) (by rfl) (by decide)
theorem fmap_len {α : Type} (f : α → List Value) (k : Nat) (hf : ∀ a, (f a).length = k) (E : List α) : (E.flatMap f).length = E.length * k := by
  induction E with
  | nil => simp
  | cons e E ih => rw [List.flatMap_cons, List.length_append, ih, hf, List.length_cons, Nat.add_mul]; omega
theorem fmap_get {α : Type} (f : α → List Value) (k : Nat) (hf : ∀ a, (f a).length = k) : ∀ (E : List α) (i : Nat) (h : i < E.length) (j : Nat), j < k → (E.flatMap f)[i * k + j]? = (f E[i])[j]? := by
  intro E
  induction E with
  | nil => intro i h; simp at h
  | cons e E ih =>
    intro i h j hj
    rw [List.flatMap_cons]
    match i with
    | 0 => rw [List.getElem?_append_left (by rw [hf]; omega)]; simp
    | i + 1 =>
      rw [List.getElem?_append_right (by rw [hf, Nat.add_mul]; omega), hf, show (i + 1) * k + j - k = i * k + j by rw [Nat.add_mul]; omega]
      exact ih i (by simpa using h) j hj
theorem ceC_len (E : List CE) : (ceC E).length = E.length * 2 := fmap_len _ 2 (fun _ => rfl) E
theorem peC_len (E : List PE) : (peC E).length = E.length * 3 := fmap_len _ 3 (fun _ => rfl) E
theorem ceC_append (A B : List CE) : ceC (A ++ B) = ceC A ++ ceC B := by simp [ceC]
theorem peC_append (A B : List PE) : peC (A ++ B) = peC A ++ peC B := by simp [peC]
theorem ceC_get (E : List CE) (i : Nat) (h : i < E.length) : (ceC E)[i * 2]? = some E[i].1 ∧ (ceC E)[i * 2 + 1]? = some (.bool E[i].2.2) :=
  ⟨fmap_get CE.cells 2 (fun _ => rfl) E i h 0 (by omega), fmap_get CE.cells 2 (fun _ => rfl) E i h 1 (by omega)⟩
theorem peC_get (E : List PE) (i : Nat) (h : i < E.length) : (peC E)[i * 3]? = some (.int .u64 E[i].2.a) ∧ (peC E)[i * 3 + 1]? = some (.bool E[i].2.n) ∧ (peC E)[i * 3 + 2]? = some E[i].1 :=
  ⟨fmap_get PE.cells 3 (fun _ => rfl) E i h 0 (by omega), fmap_get PE.cells 3 (fun _ => rfl) E i h 1 (by omega), fmap_get PE.cells 3 (fun _ => rfl) E i h 2 (by omega)⟩

/-- a row of a pool -/
def FrRow (Hp : HL) (size : Nat) (v : Value) (n : Nat) (xs : List Value) : Prop := ∀ w, Holds w Hp → ReadsAt w size v n xs
theorem FrRow.more {Hp A : HL} {size n : Nat} {v : Value} {xs : List Value} (h : FrRow Hp size v n xs) : FrRow (A ++ Hp) size v n xs := fun w hw => h w hw.right
theorem IsRow.frr {e : TypeId} {size n : Nat} {v : Value} {xs : List Value} {H Hp : HL} (h : IsRow e size v n xs H) : FrRow (H ++ Hp) size v n xs := fun w hw => h.reads hw
def CansE (Hp : HL) (v : Value) (E : List CE) : Prop := FrRow Hp 2 v E.length (ceC E) ∧ ∀ e ∈ E, FrBytes Hp e.1 e.2.1
def FrCans (Hp : HL) (v : Value) (L : List CB) : Prop := ∃ E : List CE, E.map (·.2) = L ∧ CansE Hp v E
def PlacesE (Hp : HL) (v : Value) (E : List PE) : Prop := FrRow Hp 3 v E.length (peC E) ∧ ∀ e ∈ E, FrCans Hp e.1 e.2.l
def FrPlaces (Hp : HL) (v : Value) (P : List PV) : Prop := ∃ E : List PE, E.map (·.2) = P ∧ PlacesE Hp v E
theorem CansE.more {Hp A : HL} {v : Value} {E : List CE} (h : CansE Hp v E) : CansE (A ++ Hp) v E := ⟨h.1.more, fun e he => (h.2 e he).right⟩
theorem FrCans.more {Hp A : HL} {v : Value} {L : List CB} (h : FrCans Hp v L) : FrCans (A ++ Hp) v L := by obtain ⟨E, h1, h2⟩ := h; exact ⟨E, h1, h2.more⟩
theorem PlacesE.more {Hp A : HL} {v : Value} {E : List PE} (h : PlacesE Hp v E) : PlacesE (A ++ Hp) v E := ⟨h.1.more, fun e he => (h.2 e he).more⟩
theorem FrPlaces.more {Hp A : HL} {v : Value} {L : List PV} (h : FrPlaces Hp v L) : FrPlaces (A ++ Hp) v L := by obtain ⟨E, h1, h2⟩ := h; exact ⟨E, h1, h2.more⟩
theorem FrRow.nil (Hp : HL) (size : Nat) : FrRow Hp size (.slice none 0 0) 0 [] := fun w _ => ⟨by simp, none, 0, rfl, Nat.le_refl _, by simp [maxLen], fun h => absurd h (by omega)⟩
theorem CansE.nil (Hp : HL) : CansE Hp (.slice none 0 0) [] := ⟨FrRow.nil Hp 2, fun e he => by cases he⟩
theorem PlacesE.nil (Hp : HL) : PlacesE Hp (.slice none 0 0) [] := ⟨FrRow.nil Hp 3, fun e he => by cases he⟩
theorem FrCans.nil (Hp : HL) : FrCans Hp (.slice none 0 0) [] := ⟨[], rfl, CansE.nil Hp⟩
theorem FrPlaces.nil (Hp : HL) : FrPlaces Hp (.slice none 0 0) [] := ⟨[], rfl, PlacesE.nil Hp⟩
theorem FrRow.val {Hp Fr : HL} {size n : Nat} {v : Value} {xs : List Value} {w : World} (h : FrRow Hp size v n xs) (hH : Holds w (Hp ++ Fr)) : ∃ A c, v = .slice A n c ∧ n ≤ c ∧ c ≤ maxLen := by
  obtain ⟨_, A, c, hv, h1, h2, _⟩ := h w hH.left; exact ⟨A, c, hv, h1, h2⟩
theorem FrBytes.sl {Hp Fr : HL} {v : Value} {d : List UInt8} {w : World} (h : FrBytes Hp v d) (hH : Holds w (Hp ++ Fr)) : ∃ A c, v = .slice A d.length c := (h w hH.left).val
/-- an element of a row of blocks -/
theorem CansE.get {Hp Fr : HL} {v : Value} {E : List CE} {w : World} (h : CansE Hp v E) (hH : Holds w (Hp ++ Fr)) (i : Nat) (hi : i < E.length) : ∃ b o c, v = .slice (some ⟨b, o, none⟩) E.length c ∧ E.length ≤ c ∧ c ≤ maxLen ∧
    (∀ (wx : World) (F : HL), Holds wx (Hp ++ F) → wx.cell? ⟨b, o + i * 2, none⟩ = some E[i].1 ∧ wx.cell? ⟨b, o + i * 2 + 1, none⟩ = some (.bool E[i].2.2)) := by
  obtain ⟨_, A, c, hv, h1, h2, h3⟩ := h.1 w hH.left
  obtain ⟨b, o, rfl, _⟩ := h3 (by omega)
  refine ⟨b, o, c, hv, h1, h2, fun wx F hx => ?_⟩
  obtain ⟨_, A', c', hv', _, _, h4⟩ := h.1 wx hx.left
  obtain ⟨b', o', rfl, h5⟩ := h4 (by omega)
  rw [hv] at hv'
  injection hv' with e1 e2 e3
  injection e1 with e1
  injection e1 with e1 e4
  subst e1 e4
  obtain ⟨g1, g2⟩ := ceC_get E i hi
  exact ⟨h5 _ _ g1, h5 _ _ g2⟩
theorem PlacesE.get {Hp Fr : HL} {v : Value} {E : List PE} {w : World} (h : PlacesE Hp v E) (hH : Holds w (Hp ++ Fr)) (i : Nat) (hi : i < E.length) : ∃ b o c, v = .slice (some ⟨b, o, none⟩) E.length c ∧ E.length ≤ c ∧ c ≤ maxLen ∧
    (∀ (wx : World) (F : HL), Holds wx (Hp ++ F) → wx.cell? ⟨b, o + i * 3, none⟩ = some (.int .u64 E[i].2.a) ∧ wx.cell? ⟨b, o + i * 3 + 1, none⟩ = some (.bool E[i].2.n) ∧ wx.cell? ⟨b, o + i * 3 + 2, none⟩ = some E[i].1) := by
  obtain ⟨_, A, c, hv, h1, h2, h3⟩ := h.1 w hH.left
  obtain ⟨b, o, rfl, _⟩ := h3 (by omega)
  refine ⟨b, o, c, hv, h1, h2, fun wx F hx => ?_⟩
  obtain ⟨_, A', c', hv', _, _, h4⟩ := h.1 wx hx.left
  obtain ⟨b', o', rfl, h5⟩ := h4 (by omega)
  rw [hv] at hv'
  injection hv' with e1 e2 e3
  injection e1 with e1
  injection e1 with e1 e4
  subst e1 e4
  obtain ⟨g1, g2, g3⟩ := peC_get E i hi
  exact ⟨h5 _ _ g1, h5 _ _ g2, h5 _ _ g3⟩
theorem CansE.one {Hp Fr : HL} {v : Value} {E : List CE} {w : World} (h : CansE Hp v E) (hH : Holds w (Hp ++ Fr)) : ∀ x ∈ ceC E, x.oneCell' = true := by
  intro x hx
  obtain ⟨e, he, hx⟩ := List.mem_flatMap.1 hx
  obtain ⟨A, c, hv⟩ := (h.2 e he).sl hH
  simp only [CE.cells, List.mem_cons, List.mem_nil_iff, or_false] at hx
  rcases hx with rfl | rfl
  · rw [hv]; rfl
  · rfl
theorem FrCans.sl {Hp Fr : HL} {v : Value} {L : List CB} {w : World} (h : FrCans Hp v L) (hH : Holds w (Hp ++ Fr)) : ∃ A c, v = .slice A L.length c ∧ L.length ≤ c ∧ c ≤ maxLen := by
  obtain ⟨E, rfl, hE⟩ := h
  obtain ⟨A, c, hv, h1, h2⟩ := hE.1.val hH
  exact ⟨A, c, by rw [List.length_map]; exact hv, by rw [List.length_map]; exact h1, h2⟩
theorem PlacesE.one {Hp Fr : HL} {v : Value} {E : List PE} {w : World} (h : PlacesE Hp v E) (hH : Holds w (Hp ++ Fr)) : ∀ x ∈ peC E, x.oneCell' = true := by
  intro x hx
  obtain ⟨e, he, hx⟩ := List.mem_flatMap.1 hx
  obtain ⟨A, c, hv, _⟩ := (h.2 e he).sl hH
  simp only [PE.cells, List.mem_cons, List.mem_nil_iff, or_false] at hx
  rcases hx with rfl | rfl | rfl
  · rfl
  · rfl
  · rw [hv]; rfl
/-- returned a value by R; the pool has grown -/
def RetPool (R : Value → HL → Prop) (w : World) (Hp Fr : HL) (e : Ending) (w' : World) : Prop := ∃ v Hn, e = .returned v ∧ R v (Hn ++ Hp) ∧ Holds w' ((Hn ++ Hp) ++ Fr) ∧ Grew w w'

/-! ### the model -/
def withL (L : List CB) (c : CB) : List CB := if c ∈ L then L else L ++ [c]
def washedL (L : List CB) : List CB := (L.map fun c => (c.1, false)).foldl withL []
def atP (P : List PV) (a : Int) : PV := (P.find? fun p => p.a == a).getD ⟨a, true, []⟩
end Go.Proofs.Ytinfbpldgobmfaa
