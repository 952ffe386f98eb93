/-
  Package table: what its memory is, how a bucket is opened and closed again.
-/
import Derived.Test.YtnophehonkojaaaEntI
import Derived.Test.YtnophehonkojaaaCatE
import Derived.Test.YtnophehonkojaaaRows3
namespace Go.Proofs.Ytnophehonkojaaa
open Go.RowKit
set_option linter.unusedSimpArgs false
set_option linter.unusedVariables false

theorem tEntss : SlT Try.prog 50 22 1 24 (.slice none 0 0) := SlT.mk' (by kernel_rfl) (by kernel_rfl) (by rfl) (by decide)
def entR (c : List Value) (es : List Ent) (H : HL) : Prop := ∃ v, c = [v] ∧ IsEnts v es H
/-- the bucket of an address -/
def hashT (a : Int) (n : Nat) : Nat := ((IntKind.u64.wrap (a * 11400714819323198485)) / 2 ^ 40).toNat % n
def IsTab (v : Value) (bk : List (List Ent)) (m : Int) (H : HL) : Prop :=
  ∃ b bv Hm, v = .pointer (some ⟨b, 0, none⟩) ∧ Rows2 entR 22 1 bv bk Hm ∧ H = (b, .cells #[bv, .int .i64 m] 52) :: Hm
theorem entR.one_cell {cells : List Value} (h : ∀ y ∈ cells, ∃ c x Hx, entR c x Hx ∧ y ∈ c) : ∀ y ∈ cells, y.oneCell' = true := by
  intro y hy
  obtain ⟨c, x, Hx, ⟨v, rfl, hb⟩, hyc⟩ := h y hy
  rw [List.mem_singleton.1 hyc]
  obtain ⟨A, q, rfl⟩ := hb.val
  rfl

section
variable {v : Value} {bk : List (List Ent)} {m : Int} {H : HL}
theorem IsTab.ptr (h : IsTab v bk m H) : ∃ b, v = .pointer (some ⟨b, 0, none⟩) := by obtain ⟨b, _, _, h, _⟩ := h; exact ⟨b, h⟩
theorem IsTab.view (h : IsTab v bk m H) : ∃ b A c, v = .pointer (some ⟨b, 0, none⟩) ∧ bk.length ≤ c ∧ c ≤ maxLen ∧
    (∀ (w : World) (F : HL), Holds w (H ++ F) → w.cell? ⟨b, 0, none⟩ = some (.slice A bk.length c) ∧ w.cell? ⟨b, 1, none⟩ = some (.int .i64 m) ∧ w.frozen? ⟨b, 0, none⟩ = false ∧ w.frozen? ⟨b, 1, none⟩ = false) ∧
    (∀ (w : World) (F : HL) (m' : Int), Holds w (H ++ F) → ∃ H', IsTab v bk m' H' ∧ Holds (w.setCell ⟨b, 1, none⟩ (.int .i64 m')) (H' ++ F)) ∧
    (∀ (w : World) (F : HL) (v' : Value) (bk' : List (List Ent)) (H2 : HL), Rows2 entR 22 1 v' bk' H2 → Holds w (H ++ (H2 ++ F)) → ∃ H', IsTab v bk' m H' ∧ Holds (w.setCell ⟨b, 0, none⟩ v') (H' ++ F)) ∧
    (∀ (w : World) (F : HL), Holds w (H ++ F) → RowsAt w 4 (.slice A bk.length c) (bk.map fun es => (es.length, entC es))) := by
  obtain ⟨b, bv, Hm, rfl, hr, rfl⟩ := h
  obtain ⟨A, c, rfl, hl, hc⟩ := hr.val
  refine ⟨b, A, c, rfl, hl, hc, fun w F hH => ⟨hH.hcell 0, hH.hcell 1, hH.hfrozen 0, hH.hfrozen 1⟩, fun w F m' hH => ?_, fun w F v' bk' H2 h2 hH => ?_, fun w F hH => ?_⟩
  · have hH' : Holds w ((b, Obj.cells #[.slice A bk.length c, .int .i64 m] 52) :: (Hm ++ F)) := by simpa using hH
    exact ⟨_, ⟨b, _, Hm, rfl, hr, rfl⟩, by simpa using hH'.set' 1 (.int .i64 m')⟩
  · have hH' : Holds w ((b, Obj.cells #[.slice A bk.length c, .int .i64 m] 52) :: (Hm ++ (H2 ++ F))) := by simpa using hH
    have h3 := hH'.set' 0 v'
    refine ⟨_, ⟨b, _, H2, rfl, h2, rfl⟩, ?_⟩
    have h4 : Holds (w.setCell ⟨b, 0, none⟩ v') ([(b, Obj.cells #[v', .int .i64 m] 52)] ++ (Hm ++ (H2 ++ F))) := by simpa using h3
    simpa using h4.mid
  · have hH1 : Holds w (Hm ++ F) := Holds.right (A := [(b, Obj.cells #[.slice A bk.length c, .int .i64 m] 52)]) (by simpa using hH)
    obtain ⟨vss, H0, Hs, hrow, hl1, hl2, hsz, hR, rfl⟩ := hr
    have hH' : Holds w (H0 ++ (Hs.flatten ++ F)) := hH1.assoc
    have h1 : vss.flatten.length = vss.length := by rw [flat_len vss hsz]; omega
    refine ⟨vss.flatten, by rw [List.length_map]; exact hrow.reads hH', by rw [List.length_map]; omega, fun i e x he hx => ?_⟩
    have hi : i < bk.length := by simpa using (List.getElem?_eq_some_iff.1 hx).1
    have hc : vss[i]? = some (vss[i]'(by omega)) := List.getElem?_eq_getElem (by omega)
    have hh : Hs[i]? = some (Hs[i]'(by omega)) := List.getElem?_eq_getElem (by omega)
    generalize vss[i]'(by omega) = c at hc
    generalize Hs[i]'(by omega) = Hi at hh
    obtain ⟨ev, rfl, hb⟩ := hR i c bk[i] Hi hc (List.getElem?_eq_getElem hi) hh
    have h2 := flat_get vss hsz i 0 _ hc (by omega)
    rw [Nat.mul_one, Nat.add_zero, he] at h2
    simp only [List.getElem?_cons_zero, Option.some.injEq] at h2
    subst h2
    have hflat := flatten_split Hs i Hi hh
    rw [hflat] at hH'
    have h3 : Holds w (Hi ++ ((Hs.drop (i + 1)).flatten ++ F)) := by
      have := hH'.right
      rw [List.append_assoc, List.append_assoc] at this
      exact this.right
    have hx2 : x = (bk[i].length, entC bk[i]) := by
      rw [List.getElem?_map, List.getElem?_eq_getElem hi] at hx
      exact (Option.some.inj hx).symm
    rw [hx2]
    exact hb.at_ h3

/-- one bucket of a table -/
theorem IsTab.open_ (h : IsTab v bk m H) {i : Nat} {es : List Ent} (hx : bk[i]? = some es) :
    ∃ b g cap ev Hi Hr, v = .pointer (some ⟨b, 0, none⟩) ∧ bk.length ≤ cap ∧ cap ≤ maxLen ∧ i < bk.length ∧ IsEnts ev es Hi ∧
      (∀ (w : World) (F : HL), Holds w (Hr ++ F) → w.cell? ⟨b, 0, none⟩ = some (.slice (some ⟨g, 0, none⟩) bk.length cap) ∧ w.cell? ⟨b, 1, none⟩ = some (.int .i64 m) ∧ w.cell? ⟨g, i, none⟩ = some ev ∧ w.frozen? ⟨g, i, none⟩ = false ∧ w.frozen? ⟨b, 1, none⟩ = false ∧ g < w.heap.size ∧ b < w.heap.size) ∧
      (∀ (w : World) (F : HL), Holds w (H ++ F) → Holds w (Hi ++ (Hr ++ F))) ∧
      (∀ (w : World) (F : HL) (es' : List Ent) (Hi' : HL), IsEnts ev es' Hi' → Holds w (Hi' ++ (Hr ++ F)) → ∃ H', IsTab v (bk.set i es') m H' ∧ Holds w (H' ++ F)) ∧
      (∀ (w : World) (F : HL) (ev' : Value) (es' : List Ent) (Hi' : HL), IsEnts ev' es' Hi' → Holds w (Hi' ++ (Hr ++ F)) → ∃ H', IsTab v (bk.set i es') m H' ∧ Holds (w.setCell ⟨g, i, none⟩ ev') (H' ++ F)) := by
  obtain ⟨b, bv, Hm, rfl, hr, rfl⟩ := h
  obtain ⟨g, cap, c, Hi, Hr, rfl, hc1, hc2, hk, hcl, ⟨ev, rfl, hrow⟩, hcell, hopen, hsame, hset⟩ := hr.open2 hx
  have hrot : ∀ (w : World) (F A : HL), Holds w (A ++ (((b, Obj.cells #[.slice (some ⟨g, 0, none⟩) bk.length cap, .int .i64 m] 52) :: Hr) ++ F)) → Holds w (A ++ (Hr ++ ((b, .cells #[.slice (some ⟨g, 0, none⟩) bk.length cap, .int .i64 m] 52) :: F))) := by
    intro w F A hH
    have := Holds.swap2 (A := A) (B := [(b, Obj.cells #[.slice (some ⟨g, 0, none⟩) bk.length cap, .int .i64 m] 52)]) (C := Hr) (D := F) (by simpa using hH)
    simpa using this
  have hrotb : ∀ (w : World) (F A : HL), Holds w (A ++ ((b, .cells #[.slice (some ⟨g, 0, none⟩) bk.length cap, .int .i64 m] 52) :: F)) → Holds w (((b, Obj.cells #[.slice (some ⟨g, 0, none⟩) bk.length cap, .int .i64 m] 52) :: A) ++ F) := by
    intro w F A hH
    have := Holds.swap (A := A) (B := [(b, Obj.cells #[.slice (some ⟨g, 0, none⟩) bk.length cap, .int .i64 m] 52)]) (C := F) (by simpa using hH)
    simpa using this
  refine ⟨b, g, cap, ev, Hi, (b, .cells #[.slice (some ⟨g, 0, none⟩) bk.length cap, .int .i64 m] 52) :: Hr, rfl, hc1, hc2, hk, hrow, ?_, ?_, ?_, ?_⟩
  · intro w F hH
    have h1 := hrot w F [] (by simpa using hH)
    obtain ⟨hg, hj⟩ := hcell w _ (by simpa using h1)
    obtain ⟨e1, e2⟩ := hj 0 (by omega)
    rw [Nat.mul_one, Nat.add_zero] at e1 e2
    exact ⟨hH.hcell 0, hH.hcell 1, by simpa using e1, e2, hH.hfrozen 1, hg, hH.hlt⟩
  · intro w F hH
    have h1 := hopen w ((b, .cells #[.slice (some ⟨g, 0, none⟩) bk.length cap, .int .i64 m] 52) :: F) (by
      have := Holds.swap (A := [(b, Obj.cells #[.slice (some ⟨g, 0, none⟩) bk.length cap, .int .i64 m] 52)]) (B := Hm) (C := F) (by simpa using hH)
      simpa using this)
    have := Holds.swap2 (A := Hi) (B := Hr) (C := [(b, Obj.cells #[.slice (some ⟨g, 0, none⟩) bk.length cap, .int .i64 m] 52)]) (D := F) (by simpa using h1)
    simpa using this
  · intro w F es' Hi' he hH
    obtain ⟨H', h1, h2⟩ := hsame w _ es' Hi' ⟨ev, rfl, he⟩ (hrot w F Hi' hH)
    exact ⟨_, ⟨b, _, H', rfl, by simpa using h1, rfl⟩, hrotb w F H' h2⟩
  · intro w F ev' es' Hi' he hH
    obtain ⟨H', h1, h2⟩ := hset w _ 0 ev' es' Hi' (by omega) ⟨ev', rfl, he⟩ (hrot w F Hi' hH)
    rw [Nat.mul_one, Nat.add_zero] at h2
    exact ⟨_, ⟨b, _, H', rfl, by simpa using h1, rfl⟩, hrotb _ F H' h2⟩
end
end Go.Proofs.Ytnophehonkojaaa
