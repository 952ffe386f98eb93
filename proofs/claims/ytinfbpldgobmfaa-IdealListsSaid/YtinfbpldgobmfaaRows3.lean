/-
  More on slices whose elements own memory: opening whatever stands by; two operations of a drawn region that come up together.
-/
import Derived.Test.YtinfbpldgobmfaaBys
import Derived.Test.YtinfbpldgobmfaaOrd
namespace Go.Proofs.Ytinfbpldgobmfaa
open Go Go.RowKit
set_option linter.unusedSimpArgs false
set_option linter.unusedVariables false

theorem sub_append {A B L : HL} (h : ∀ p, p ∈ A → p ∈ L) (k : ∀ p, p ∈ B → p ∈ L) : ∀ p, p ∈ A ++ B → p ∈ L := fun p hp => (List.mem_append.1 hp).elim (h p) (k p)
theorem sub_cons {x : Nat × Obj} {B L : HL} (h : x ∈ L) (k : ∀ p, p ∈ B → p ∈ L) : ∀ p, p ∈ x :: B → p ∈ L := fun p hp => (List.mem_cons.1 hp).elim (fun e => e ▸ h) (k p)
theorem Holds.tail {w : World} {x : Nat × Obj} {H : HL} (h : Holds w (x :: H)) : Holds w H := Holds.right (A := [x]) h
theorem sub_nil {L : HL} : ∀ p, p ∈ ([] : HL) → p ∈ L := fun p hp => by cases hp
/-- one element is opened, whatever stands by: its cells, what it owns, and how it is closed again behind a store -/
theorem Rows2.open2 {α : Type} {R : List Value → α → HL → Prop} {e : TypeId} {size : Nat} {v : Value} {xs : List α} {H : HL} (h : Rows2 R e size v xs H) {i : Nat} {x : α} (hx : xs[i]? = some x) :
    ∃ g cap c Hi Hr, v = .slice (some ⟨g, 0, none⟩) xs.length cap ∧ xs.length ≤ cap ∧ cap ≤ maxLen ∧ i < xs.length ∧ c.length = size ∧ R c x Hi ∧
      (∀ (w : World) (F : HL), Holds w (Hr ++ F) → g < w.heap.size ∧ ∀ j, j < size → w.cell? ⟨g, i * size + j, none⟩ = c[j]? ∧ w.frozen? ⟨g, i * size + j, none⟩ = false) ∧
      (∀ (w : World) (F : HL), Holds w (H ++ F) → Holds w (Hi ++ (Hr ++ F))) ∧
      (∀ (w' : World) (F : HL) x' Hi', R c x' Hi' → Holds w' (Hi' ++ (Hr ++ F)) → ∃ H', Rows2 R e size v (xs.set i x') H' ∧ Holds w' (H' ++ F)) ∧
      (∀ (w' : World) (F : HL) j u x' Hi', j < size → R (c.set j u) x' Hi' → Holds w' (Hi' ++ (Hr ++ F)) → ∃ H', Rows2 R e size v (xs.set i x') H' ∧ Holds (w'.setCell ⟨g, i * size + j, none⟩ u) (H' ++ F)) := by
  obtain ⟨vss, H0, Hs, hrow, hl1, hl2, hsz, hR, rfl⟩ := h
  have hi : i < xs.length := (List.getElem?_eq_some_iff.1 hx).1
  have hc : vss[i]? = some (vss[i]'(by omega)) := List.getElem?_eq_getElem (by omega)
  have hh : Hs[i]? = some (Hs[i]'(by omega)) := List.getElem?_eq_getElem (by omega)
  generalize hc' : vss[i]'(by omega) = c at hc
  generalize hh' : Hs[i]'(by omega) = Hi at hh
  have hcl : c.length = size := hsz c (List.mem_of_getElem? hc)
  obtain ⟨hl0, hv⟩ := hrow
  rcases hv with ⟨rfl, h0, _⟩ | ⟨g, cap, cur, fz, rfl, hn, hcm, hcs, htake, hfz, rfl⟩
  · omega
  have hflat := flatten_split Hs i Hi hh
  have hbd : ∀ j, j < size → i * size + j < xs.length * size := by
    intro j hj
    have : (i + 1) * size ≤ xs.length * size := Nat.mul_le_mul_right _ hi
    rw [Nat.add_mul] at this; omega
  have hcap : xs.length * size ≤ cap * size := Nat.mul_le_mul_right _ hn
  have hget : ∀ j, j < size → cur[i * size + j]? = c[j]? := by
    intro j hj
    rw [← flat_get vss hsz i j c hc hj, ← htake, List.getElem?_take, if_pos (hbd j hj)]
    simp
  refine ⟨g, cap, c, Hi, (g, .cells cur e fz) :: ((Hs.take i).flatten ++ (Hs.drop (i + 1)).flatten), rfl, hn, hcm, hi, hcl, hR i c x Hi hc hx hh, fun w F hH => ⟨?_, fun j hj => ⟨?_, ?_⟩⟩, ?_, ?_, ?_⟩
  · exact hH.lt (p := (g, .cells cur e fz)) (by simp)
  · rw [hH.cell (t := e) (cs := cur) (fz := fz) (by simp)]; exact hget j hj
  · exact frozen_of_block (t := e) (cs := cur) (fz := fz) (hH.get (by simp)) hfz (by have := hbd j hj; omega)
  · intro w F hH
    refine hH.sub ?_ ?_
    · intro p hp
      rw [hflat]
      simp only [List.mem_append, List.mem_cons] at hp ⊢
      rcases hp with h | (h | h | h) | h <;> simp [h]
    · intro b
      rw [hflat]
      simp only [keyc_append, keyc_cons]
      omega
  · intro w' F x' Hi' hR' hH'
    refine ⟨_, ⟨vss, [(g, .cells cur e fz)], Hs.set i Hi', ⟨by simpa using hl0, .inr ⟨g, cap, cur, fz, by simp, by simpa using hn, hcm, hcs, by simpa using htake, hfz, rfl⟩⟩, by simpa using hl1, by simpa using hl2, hsz, ?_, rfl⟩, ?_⟩
    · intro k c2 x2 h2 e1 e2 e3
      by_cases hk : k = i
      · subst hk
        rw [hc] at e1
        rw [List.getElem?_set_self (by omega)] at e2 e3
        cases e1; cases e2; cases e3
        exact hR'
      · rw [List.getElem?_set_ne (by omega)] at e2 e3
        exact hR k c2 x2 h2 e1 e2 e3
    · refine hH'.sub ?_ ?_
      · intro p hp
        rw [flatten_set_split Hs i Hi' (by omega)] at hp
        simp only [List.mem_append, List.mem_cons, List.not_mem_nil, or_false] at hp ⊢
        rcases hp with (h | h | h | h) | h <;> simp [h]
      · intro b
        rw [flatten_set_split Hs i Hi' (by omega)]
        simp only [keyc_append, keyc_cons, keyc_nil]
        omega
  · intro w' F j u x' Hi' hj hR' hH'
    have hoff := hbd j hj
    refine ⟨_, ⟨vss.set i (c.set j u), [(g, .cells (cur.setIfInBounds (i * size + j) u) e fz)], Hs.set i Hi', ⟨?_, .inr ⟨g, cap, cur.setIfInBounds (i * size + j) u, fz, by simp, by simpa using hn, hcm, by simpa using hcs, ?_, by simpa using hfz, rfl⟩⟩, by simpa using hl1, by simpa using hl2, ?_, ?_, rfl⟩, ?_⟩
    · rw [← flat_set vss hsz i j c u hc hj]; simpa using hl0
    · rw [← flat_set vss hsz i j c u hc hj, ← htake, Array.toList_setIfInBounds, List.length_set, List.take_set]
    · intro c2 hc2
      rcases List.mem_or_eq_of_mem_set hc2 with h | h
      · exact hsz c2 h
      · rw [h]; simpa using hcl
    · intro k c2 x2 h2 e1 e2 e3
      by_cases hk : k = i
      · subst hk
        rw [List.getElem?_set_self (by omega)] at e1 e2 e3
        cases e1; cases e2; cases e3
        exact hR'
      · rw [List.getElem?_set_ne (by omega)] at e1 e2 e3
        exact hR k c2 x2 h2 e1 e2 e3
    · have h1 : Holds w' ((g, .cells cur e fz) :: ((Hs.take i).flatten ++ (Hs.drop (i + 1)).flatten ++ Hi' ++ F)) := by
        refine hH'.sub ?_ ?_
        · intro p hp
          simp only [List.mem_append, List.mem_cons] at hp ⊢
          rcases hp with h | (((h | h) | h) | h) <;> simp [h]
        · intro b; simp only [keyc_append, keyc_cons]; omega
      refine (h1.set' (i * size + j) u).sub ?_ ?_
      · intro p hp
        rw [flatten_set_split Hs i Hi' (by omega)] at hp
        simp only [List.mem_append, List.mem_cons, List.not_mem_nil, or_false] at hp ⊢
        rcases hp with (h | h | h | h) | h <;> simp [h]
      · intro b
        rw [flatten_set_split Hs i Hi' (by omega)]
        simp only [keyc_append, keyc_cons, keyc_nil]
        omega


/-- .. one element more, and what its cells are -/
theorem Rows2.parts3 {α : Type} {R : List Value → α → HL → Prop} {e : TypeId} {size : Nat} {v : Value} {xs : List α} {H : HL} (h : Rows2 R e size v xs H) : ∃ (cells : List Value) (H0 H1 : HL), H = H0 ++ H1 ∧ IsRow e size v xs.length cells H0 ∧ (∀ y ∈ cells, ∃ c x Hx, R c x Hx ∧ y ∈ c) ∧
      (∀ v' H0' c x Hx, c.length = size → R c x Hx → IsRow e size v' (xs.length + 1) (cells ++ c) H0' → Rows2 R e size v' (xs ++ [x]) (H0' ++ (H1 ++ Hx))) := by
  obtain ⟨vss, H0, Hs, hrow, hl1, hl2, hsz, hR, rfl⟩ := h
  refine ⟨vss.flatten, H0, Hs.flatten, rfl, hrow, ?_, ?_⟩
  · intro y hy
    obtain ⟨c, hc, hyc⟩ := List.mem_flatten.1 hy
    obtain ⟨i, hi, rfl⟩ := List.mem_iff_getElem.1 hc
    exact ⟨vss[i], xs[i]'(by omega), Hs[i]'(by omega), hR i _ _ _ (List.getElem?_eq_getElem hi) (List.getElem?_eq_getElem (by omega)) (List.getElem?_eq_getElem (by omega)), hyc⟩
  · intro v' H0' c x Hx hcl hRx hrow'
    refine ⟨vss ++ [c], H0', Hs ++ [Hx], by simpa using hrow', by simp [hl1], by simp [hl2], ?_, ?_, by simp⟩
    · intro c2 h2
      rcases List.mem_append.1 h2 with h | h
      · exact hsz c2 h
      · rw [List.mem_singleton.1 h]; exact hcl
    · intro i c2 x2 h2 e1 e2 e3
      by_cases hi : i < xs.length
      · rw [List.getElem?_append_left (by omega)] at e1 e2 e3
        exact hR i c2 x2 h2 e1 e2 e3
      · rw [List.getElem?_append_right (by omega)] at e1 e2 e3
        have hk : i - xs.length = 0 := by
          rcases Nat.eq_zero_or_pos (i - xs.length) with h | h
          · exact h
          · rw [List.getElem?_eq_none (by simp; omega)] at e2; cases e2
        rw [hl1, hk] at e1; rw [hk] at e2; rw [hl2, hk] at e3
        simp only [List.getElem?_cons_zero, Option.some.injEq] at e1 e2 e3
        subst e1; subst e2; subst e3
        exact hRx
theorem IsBys.one_cell {cells : List Value} (h : ∀ y ∈ cells, ∃ c x Hx, bytesR c x Hx ∧ y ∈ c) : ∀ y ∈ cells, y.oneCell' = true := by
  intro y hy
  obtain ⟨c, x, Hx, ⟨v, rfl, hb⟩, hyc⟩ := h y hy
  rw [List.mem_singleton.1 hyc]
  obtain ⟨A, q, rfl⟩ := hb.val
  rfl

section
variable {P : Program} {ops : Array Oper} {Q : Exit → Act → World → Prop} {md : Region.Mode} {S : World → Prop} {z : Nat}
/-- as Z_take, the place named: the frame stays a literal -/
theorem Z_takeD (i : Nat) (d : Option Nat) {oi : Oper} {v : Value} {fuel : Nat} {listed : Array Bool} {a : Act} {w : World} (hi : ops[i]? = some oi) (hdst : oi.dst = d) (hB : takeB md ops z listed i = true)
    (hQ : ∀ c a w, Q (.panic c) (a.put d v) w → Q (.panic c) a w) (hw : Region.wanted oi (yielded ops a.tmps) = true) (hS : S w) (hy : ∀ wx, S wx → (execOp a.eval oi).run P wx = .ok (.value v) wx)
    (h : wpAnyZ P md ops Q S z fuel (listed.setIfInBounds i true) (a.put d v) w) : wpAnyZ P md ops Q S z (fuel + 1) listed a w := by
  subst hdst
  exact Z_take i hi hB hQ hw hS hy h
/-- two come up together -/
theorem Z_two (i j : Nat) {oi oj : Oper} {fuel : Nat} {listed : Array Bool} {a : Act} {w : World} (hi : ops[i]? = some oi) (hj : ops[j]? = some oj) (hr : Region.ready md ops listed = [i, j])
    (h1 : ∀ K : Act → World → Prop, (∀ a' w', S w' → (S w' → wpAnyZ P md ops Q S z fuel (listed.setIfInBounds i true) a' w') → K a' w') → if Region.wanted oi (yielded ops a.tmps) = true then Oper.wp P oi a w K Q else K (a.put oi.dst undef) w)
    (h2 : ∀ K : Act → World → Prop, (∀ a' w', S w' → (S w' → wpAnyZ P md ops Q S z fuel (listed.setIfInBounds j true) a' w') → K a' w') → if Region.wanted oj (yielded ops a.tmps) = true then Oper.wp P oj a w K Q else K (a.put oj.dst undef) w) :
    wpAnyZ P md ops Q S z (fuel + 1) listed a w := by
  refine ⟨fun h0 => (by rw [hr] at h0; cases h0), fun k hk => ?_⟩
  rw [hr] at hk
  rcases List.mem_cons.1 hk with rfl | hk
  · exact wpOp_step hi fun K' hK' => h1 K' fun a' w' h1 h2 => hK' a' w' ⟨fun _ => h1, h2 h1⟩
  · obtain rfl := List.mem_singleton.1 hk
    exact wpOp_step hj fun K' hK' => h2 K' fun a' w' h1 h2 => hK' a' w' ⟨fun _ => h1, h2 h1⟩
end
end Go.Proofs.Ytinfbpldgobmfaa
