/-
  Slices of byte slices that one owns, elements and all.
-/
import Derived.Test.YtinfbpldgobmfaaTy
namespace Go.Proofs.Ytinfbpldgobmfaa
open Go.RowKit
set_option linter.unusedSimpArgs false

/-- one element more: the outer row, the rest, and how they are put together with it -/
theorem Rows2.parts2 {α : Type} {R : List Value → α → HL → Prop} {e : TypeId} {size : Nat} {v : Value} {xs : List α} {H : HL} (h : Rows2 R e size v xs H) : ∃ (cells : List Value) (H0 H1 : HL), H = H0 ++ H1 ∧ IsRow e size v xs.length cells H0 ∧
      (∀ v' H0' c x Hx, c.length = size → R c x Hx → IsRow e size v' (xs.length + 1) (cells ++ c) H0' → Rows2 R e size v' (xs ++ [x]) (H0' ++ (H1 ++ Hx))) := by
  obtain ⟨vss, H0, Hs, hrow, hl1, hl2, hsz, hR, rfl⟩ := h
  refine ⟨vss.flatten, H0, Hs.flatten, rfl, hrow, ?_⟩
  intro v' H0' c x Hx hcl hRx hrow'
  refine ⟨vss ++ [c], H0', Hs ++ [Hx], by simpa using hrow', by simp [hl1], by simp [hl2], ?_, ?_, by simp⟩
  · intro c2 h2
    rcases List.mem_append.1 h2 with h | h
    · exact hsz c2 h
    · rw [List.mem_singleton.1 h]; exact hcl
  · intro i c2 x2 h2 e1 e2 e3
    by_cases hi : i < xs.length
    · rw [List.getElem?_append_left (by omega)] at e1 e2 e3
      exact hR i c2 x2 h2 e1 e2 e3
    · rw [List.getElem?_append_right (by omega)] at e1 e2 e3
      have hk : i - xs.length = 0 := by
        rcases Nat.eq_zero_or_pos (i - xs.length) with h | h
        · exact h
        · rw [List.getElem?_eq_none (by simp; omega)] at e2; cases e2
      rw [hl1, hk] at e1; rw [hk] at e2; rw [hl2, hk] at e3
      simp only [List.getElem?_cons_zero, Option.some.injEq] at e1 e2 e3
      subst e1; subst e2; subst e3
      exact hRx

/-- .. in a loop whose world has only drawn -/
theorem quietQ2 {P : Program} {f : FuncId} {args : Array Value} {w : World} {q n : Nat} {v : Value} (h : Calls P f args (w.drewN (q + n)) (RetQ (w.drewN (q + n)) v)) :
    Calls P f args (w.drewN (q + n)) fun e w'' => e = .returned v ∧ ∃ m, w'' = w.drewN (q + m) := h.mono fun _ _ ⟨he, m, hm⟩ => ⟨he, n + m, by rw [hm, World.drewN_drewN, Nat.add_assoc]⟩

def bytesR (c : List Value) (bs : List UInt8) (H : HL) : Prop := ∃ v, c = [v] ∧ IsBytes v bs H
def IsBys (v : Value) (l : List (List UInt8)) (H : HL) : Prop := Rows2 bytesR 28 1 v l H
/-- what is read of it: its cells, and each one's bytes -/
def BysAt (w : World) (v : Value) (l : List (List UInt8)) : Prop :=
  ∃ evs : List Value, ReadsAt w 1 v l.length evs ∧ evs.length = l.length ∧ ∀ (i : Nat) (e : Value) (x : List UInt8), evs[i]? = some e → l[i]? = some x → BytesAt w e x

section
variable {w w' : World} {v : Value} {l : List (List UInt8)} {H Fr : HL}
theorem IsBys.at_ (h : IsBys v l H) (hH : Holds w (H ++ Fr)) : BysAt w v l := by
  obtain ⟨vss, H0, Hs, hrow, hl1, hl2, hsz, hR, rfl⟩ := h
  have hH' : Holds w (H0 ++ (Hs.flatten ++ Fr)) := hH.assoc
  have h1 : vss.flatten.length = vss.length := by rw [flat_len vss hsz]; omega
  refine ⟨vss.flatten, hrow.reads hH', by omega, fun i e x he hx => ?_⟩
  have hi : i < l.length := (List.getElem?_eq_some_iff.1 hx).1
  have hc : vss[i]? = some (vss[i]'(by omega)) := List.getElem?_eq_getElem (by omega)
  have hh : Hs[i]? = some (Hs[i]'(by omega)) := List.getElem?_eq_getElem (by omega)
  generalize vss[i]'(by omega) = c at hc
  generalize Hs[i]'(by omega) = Hi at hh
  obtain ⟨ev, rfl, hb⟩ := hR i c x Hi hc hx hh
  have h2 := flat_get vss hsz i 0 _ hc (by omega)
  rw [Nat.mul_one, Nat.add_zero, he] at h2
  simp only [List.getElem?_cons_zero, Option.some.injEq] at h2
  subst h2
  have hflat := flatten_split Hs i Hi hh
  rw [hflat] at hH'
  have h3 : Holds w (Hi ++ ((Hs.drop (i + 1)).flatten ++ Fr)) := by
    have := hH'.right
    rw [List.append_assoc, List.append_assoc] at this
    exact this.right
  exact hb.at_ h3
theorem IsBys.val (h : IsBys v l H) : ∃ A c, v = .slice A l.length c ∧ l.length ≤ c ∧ c ≤ maxLen := Rows2.val h
theorem IsBys.one {b : Nat} {e : Value} {x : List UInt8} {Hx : HL} (h : IsBytes e x Hx) : IsBys (.slice (some ⟨b, 0, none⟩) 1 1) [x] ((b, .cells #[e] 28) :: Hx) := by
  refine ⟨[[e]], [(b, .cells #[e] 28)], [Hx], IsRow.made (size := 1) (e := 28) b 1 #[e] (by rfl) (by simp [maxLen]), rfl, rfl, by simp, ?_, by simp⟩
  intro i c x' h' e1 e2 e3
  match i with
  | 0 =>
    simp only [List.getElem?_cons_zero, Option.some.injEq] at e1 e2 e3
    subst e1 e2 e3
    exact ⟨_, rfl, h⟩
  | k + 1 => simp at e1
theorem BysAt.keep (h : BysAt w v l) (hk : ∀ p u, w.cell? p = some u → w'.cell? p = some u) : BysAt w' v l := by
  obtain ⟨evs, h1, h2, h3⟩ := h
  exact ⟨evs, h1.keep hk, h2, fun i e x he hx => (h3 i e x he hx).keep hk⟩
theorem BysAt.drewN (h : BysAt w v l) (n : Nat) : BysAt (w.drewN n) v l := h
/-- one element's cell and bytes -/
theorem BysAt.get {A : Option Addr} {n c : Nat} (h : BysAt w (.slice A n c) l) {i : Nat} (hi : i < l.length) : ∃ b o e, A = some ⟨b, o, none⟩ ∧ w.cell? ⟨b, o + i, none⟩ = some e ∧ BytesAt w e l[i] := by
  obtain ⟨evs, ⟨_, A', c', hv, _, _, h1⟩, h2, h3⟩ := h
  injection hv with hv1 _ hv3
  subst hv1
  obtain ⟨b, o, rfl, h4⟩ := h1 (by omega)
  have he : evs[i]? = some (evs[i]'(by omega)) := List.getElem?_eq_getElem (by omega)
  exact ⟨b, o, _, rfl, h4 i _ he, h3 i _ _ he (List.getElem?_eq_getElem hi)⟩
/-- each element, the same in all worlds that have H -/
theorem IsBys.get2 {A : Option Addr} {n c : Nat} (h : IsBys (.slice A n c) l H) (h0 : 0 < n) : l.length = n ∧ ∃ g, A = some ⟨g, 0, none⟩ ∧ ∀ j, j < n → ∃ e x, l[j]? = some x ∧ ∀ (wx : World) (Fr : HL), Holds wx (H ++ Fr) → wx.cell? ⟨g, j, none⟩ = some e ∧ BytesAt wx e x := by
  obtain ⟨vss, H0, Hs, hrow, hl1, hl2, hsz, hR, rfl⟩ := h
  have h1 : vss.flatten.length = vss.length := by rw [flat_len vss hsz]; omega
  obtain ⟨_, h2⟩ := hrow
  rcases h2 with ⟨hv, _, _⟩ | ⟨g, cap, cur, fz, hv, hn, hcm, hcs, htake, hfz, rfl⟩
  · injection hv with _ hv2 _; omega
  · injection hv with hv1 hv2 hv3
    subst hv1
    refine ⟨hv2.symm, g, rfl, fun j hj => ?_⟩
    have hc : vss[j]? = some (vss[j]'(by omega)) := List.getElem?_eq_getElem (by omega)
    have hh : Hs[j]? = some (Hs[j]'(by omega)) := List.getElem?_eq_getElem (by omega)
    have hx : l[j]? = some (l[j]'(by omega)) := List.getElem?_eq_getElem (by omega)
    generalize vss[j]'(by omega) = c at hc
    generalize Hs[j]'(by omega) = Hi at hh
    generalize l[j]'(by omega) = x at hx
    obtain ⟨ev, rfl, hb⟩ := hR j c x Hi hc hx hh
    have h3 := flat_get vss hsz j 0 _ hc (by omega)
    rw [Nat.mul_one, Nat.add_zero] at h3
    refine ⟨ev, x, hx, fun wx Fr hH => ⟨?_, ?_⟩⟩
    · rw [hH.cell (t := 28) (cs := cur) (fz := fz) (by simp)]
      rw [← htake, List.getElem?_take, if_pos (by omega)] at h3
      simpa using h3
    · have hflat := flatten_split Hs j Hi hh
      rw [hflat] at hH
      have h4 : Holds wx (Hi ++ ((Hs.drop (j + 1)).flatten ++ Fr)) := by
        have := (hH.assoc).right
        rw [List.append_assoc, List.append_assoc] at this
        exact this.right
      exact hb.at_ h4
end
end Go.Proofs.Ytinfbpldgobmfaa
