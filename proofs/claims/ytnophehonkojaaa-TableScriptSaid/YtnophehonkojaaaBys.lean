/-
  Slices of byte slices that one owns, elements and all.
-/
import Derived.Test.YtnophehonkojaaaTy
namespace Go.Proofs.Ytnophehonkojaaa
open Go.RowKit
set_option linter.unusedSimpArgs false

/-- one element more: the outer row, the rest, and how they are put together with it -/
theorem Rows2.parts2 {α : Type} {R : List Value → α → HL → Prop} {e : TypeId} {size : Nat} {v : Value} {xs : List α} {H : HL} (h : Rows2 R e size v xs H) : ∃ (cells : List Value) (H0 H1 : HL), H = H0 ++ H1 ∧ IsRow e size v xs.length cells H0 ∧
      (∀ v' H0' c x Hx, c.length = size → R c x Hx → IsRow e size v' (xs.length + 1) (cells ++ c) H0' → Rows2 R e size v' (xs ++ [x]) (H0' ++ (H1 ++ Hx))) := by
  obtain ⟨vss, H0, Hs, hrow, hl1, hl2, hsz, hR, rfl⟩ := h
  refine ⟨vss.flatten, H0, Hs.flatten, rfl, hrow, ?_⟩
  intro v' H0' c x Hx hcl hRx hrow'
  refine ⟨vss ++ [c], H0', Hs ++ [Hx], by simpa using hrow', by simp [hl1], by simp [hl2], ?_, ?_, by simp⟩
  · intro c2 h2
    rcases List.mem_append.1 h2 with h | h
    · exact hsz c2 h
    · rw [List.mem_singleton.1 h]; exact hcl
  · intro i c2 x2 h2 e1 e2 e3
    by_cases hi : i < xs.length
    · rw [List.getElem?_append_left (by omega)] at e1 e2 e3
      exact hR i c2 x2 h2 e1 e2 e3
    · rw [List.getElem?_append_right (by omega)] at e1 e2 e3
      have hk : i - xs.length = 0 := by
        rcases Nat.eq_zero_or_pos (i - xs.length) with h | h
        · exact h
        · rw [List.getElem?_eq_none (by simp; omega)] at e2; cases e2
      rw [hl1, hk] at e1; rw [hk] at e2; rw [hl2, hk] at e3
      simp only [List.getElem?_cons_zero, Option.some.injEq] at e1 e2 e3
      subst e1; subst e2; subst e3
      exact hRx

/-- .. in a loop whose world has only drawn -/
theorem quietQ2 {P : Program} {f : FuncId} {args : Array Value} {w : World} {q n : Nat} {v : Value} (h : Calls P f args (w.drewN (q + n)) (RetQ (w.drewN (q + n)) v)) :
    Calls P f args (w.drewN (q + n)) fun e w'' => e = .returned v ∧ ∃ m, w'' = w.drewN (q + m) := h.mono fun _ _ ⟨he, m, hm⟩ => ⟨he, n + m, by rw [hm, World.drewN_drewN, Nat.add_assoc]⟩

def bytesR (c : List Value) (bs : List UInt8) (H : HL) : Prop := ∃ v, c = [v] ∧ IsBytes v bs H
/-- what is read of it: its cells, and each one's bytes -/
def BysAt (w : World) (v : Value) (l : List (List UInt8)) : Prop :=
  ∃ evs : List Value, ReadsAt w 1 v l.length evs ∧ evs.length = l.length ∧ ∀ (i : Nat) (e : Value) (x : List UInt8), evs[i]? = some e → l[i]? = some x → BytesAt w e x

section
variable {w w' : World} {v : Value} {l : List (List UInt8)} {H Fr : HL}
theorem BysAt.keep (h : BysAt w v l) (hk : ∀ p u, w.cell? p = some u → w'.cell? p = some u) : BysAt w' v l := by
  obtain ⟨evs, h1, h2, h3⟩ := h
  exact ⟨evs, h1.keep hk, h2, fun i e x he hx => (h3 i e x he hx).keep hk⟩
theorem BysAt.drewN (h : BysAt w v l) (n : Nat) : BysAt (w.drewN n) v l := h
/-- one element's cell and bytes -/
theorem BysAt.get {A : Option Addr} {n c : Nat} (h : BysAt w (.slice A n c) l) {i : Nat} (hi : i < l.length) : ∃ b o e, A = some ⟨b, o, none⟩ ∧ w.cell? ⟨b, o + i, none⟩ = some e ∧ BytesAt w e l[i] := by
  obtain ⟨evs, ⟨_, A', c', hv, _, _, h1⟩, h2, h3⟩ := h
  injection hv with hv1 _ hv3
  subst hv1
  obtain ⟨b, o, rfl, h4⟩ := h1 (by omega)
  have he : evs[i]? = some (evs[i]'(by omega)) := List.getElem?_eq_getElem (by omega)
  exact ⟨b, o, _, rfl, h4 i _ he, h3 i _ _ he (List.getElem?_eq_getElem hi)⟩
end
end Go.Proofs.Ytnophehonkojaaa
