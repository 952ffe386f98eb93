/-
  Package yard: the model, what its memory is, how a block is opened and closed again.
-/
import Derived.Test.YteaeahhjkagbdaaErr
import Derived.Deep.DeepCutAuto
namespace Go.Proofs.Yteaeahhjkagbdaa
open Go.RowKit
set_option linter.unusedSimpArgs false
set_option linter.unusedVariables false

theorem tYblocks : SlT Try.prog 126 131 3 40 (.agg #[.int .i64 0, .int .i64 0, .slice none 0 0]) := SlT.mk' (by kernel_rfl) (by kernel_rfl) (by rfl) (by decide)
theorem tYpages : SlT Try.prog 129 140 2 2 (.agg #[.bool false, .bool false]) := SlT.mk' (by kernel_rfl) (by kernel_rfl) (by rfl) (by decide)

structure YB where
  state : Int
  taken : Int
  pages : List (Bool × Bool)
def pageC (p : Bool × Bool) : List Value := [.bool p.1, .bool p.2]
def ybR (c : List Value) (x : YB) (H : HL) : Prop := ∃ g cap, c = [.int .i64 x.state, .int .i64 x.taken, .slice (some ⟨g, 0, none⟩) x.pages.length cap] ∧ IsRow 140 2 (.slice (some ⟨g, 0, none⟩) x.pages.length cap) x.pages.length (x.pages.map pageC).flatten H
/-- what each block is: at most so many pages -/
def YB.ok (x : YB) : Prop := 0 ≤ x.taken ∧ x.taken ≤ 8 ∧ x.pages.length ≤ 8 ∧ IntOkY x.state
where IntOkY (n : Int) : Prop := 0 ≤ n ∧ n ≤ 100
def IsYard (v : Value) (y : List YB) (H : HL) : Prop :=
  ∃ b bv Hm, v = .pointer (some ⟨b, 0, none⟩) ∧ (∀ x ∈ y, x.ok) ∧ y.length ≤ 32 ∧ Rows2 ybR 131 3 bv y Hm ∧ H = (b, .cells #[bv] 128) :: Hm

theorem IsYard.ptr {v : Value} {y : List YB} {H : HL} (h : IsYard v y H) : ∃ b, v = .pointer (some ⟨b, 0, none⟩) := by
  obtain ⟨b, _, _, h, _⟩ := h; exact ⟨b, h⟩
theorem IsYard.small {v : Value} {y : List YB} {H : HL} (h : IsYard v y H) : y.length ≤ 32 ∧ ∀ x ∈ y, x.ok := by
  obtain ⟨_, _, _, _, h1, h2, _⟩ := h; exact ⟨h2, h1⟩

/-- a yard's blocks: how many there are is read -/
theorem IsYard.view {v : Value} {y : List YB} {H : HL} (h : IsYard v y H) : ∃ b A c, v = .pointer (some ⟨b, 0, none⟩) ∧ y.length ≤ c ∧ c ≤ maxLen ∧
    ∀ (w : World) (F : HL), Holds w (H ++ F) → w.cell? ⟨b, 0, none⟩ = some (.slice A y.length c) := by
  obtain ⟨b, bv, Hm, rfl, _, _, hr, rfl⟩ := h
  obtain ⟨A, c, rfl, hl, hc⟩ := hr.val
  exact ⟨b, A, c, rfl, hl, hc, fun w F hH => hH.hcell 0⟩

/-- one block of a yard -/
theorem IsYard.open_ {v : Value} {y : List YB} {H : HL} (h : IsYard v y H) {k : Nat} {x : YB} (hx : y[k]? = some x) :
    ∃ b g cap gp cp, v = .pointer (some ⟨b, 0, none⟩) ∧ y.length ≤ cap ∧ cap ≤ maxLen ∧ k < y.length ∧ x.ok ∧
      (∀ (w : World) (F : HL), Holds w (H ++ F) → w.cell? ⟨b, 0, none⟩ = some (.slice (some ⟨g, 0, none⟩) y.length cap) ∧ w.cell? ⟨g, k * 3, none⟩ = some (.int .i64 x.state) ∧ w.cell? ⟨g, k * 3 + 1, none⟩ = some (.int .i64 x.taken) ∧
        w.cell? ⟨g, k * 3 + 2, none⟩ = some (.slice (some ⟨gp, 0, none⟩) x.pages.length cp) ∧ w.frozen? ⟨g, k * 3, none⟩ = false ∧ w.frozen? ⟨g, k * 3 + 1, none⟩ = false ∧
        ReadsAt w 2 (.slice (some ⟨gp, 0, none⟩) x.pages.length cp) x.pages.length (x.pages.map pageC).flatten) ∧
      (∀ (w : World) (F : HL) (u : Int), Holds w (H ++ F) → ({ x with state := u } : YB).ok → ∃ H', IsYard v (y.set k { x with state := u }) H' ∧ Holds (w.setCell ⟨g, k * 3, none⟩ (.int .i64 u)) (H' ++ F)) ∧
      (∀ (w : World) (F : HL) (u : Int), Holds w (H ++ F) → ({ x with taken := u } : YB).ok → ∃ H', IsYard v (y.set k { x with taken := u }) H' ∧ Holds (w.setCell ⟨g, k * 3 + 1, none⟩ (.int .i64 u)) (H' ++ F)) ∧
      (∀ (i : Nat), i < x.pages.length → ∀ (w : World) (F : HL), Holds w (H ++ F) → w.frozen? ⟨gp, i * 2, none⟩ = false ∧ w.frozen? ⟨gp, i * 2 + 1, none⟩ = false ∧
        (∀ u : Bool × Bool, ∃ H', IsYard v (y.set k { x with pages := x.pages.set i u }) H' ∧ Holds ((w.setCell ⟨gp, i * 2, none⟩ (.bool u.1)).setCell ⟨gp, i * 2 + 1, none⟩ (.bool u.2)) (H' ++ F)) ∧
        (∀ u : Bool, ∃ H', IsYard v (y.set k { x with pages := x.pages.set i ((x.pages.getD i (false, false)).1, u) }) H' ∧ Holds (w.setCell ⟨gp, i * 2 + 1, none⟩ (.bool u)) (H' ++ F))) ∧
      (∀ (w : World) (F : HL) (u t : Int), Holds w (H ++ F) → ({ x with state := u, taken := t } : YB).ok → (w.setCell ⟨g, k * 3, none⟩ (.int .i64 u)).frozen? ⟨g, k * 3 + 1, none⟩ = false ∧ (w.setCell ⟨g, k * 3, none⟩ (.int .i64 u)).cell? ⟨g, k * 3 + 1, none⟩ = some (.int .i64 x.taken) ∧
        ∃ H', IsYard v (y.set k { x with state := u, taken := t }) H' ∧ Holds ((w.setCell ⟨g, k * 3, none⟩ (.int .i64 u)).setCell ⟨g, k * 3 + 1, none⟩ (.int .i64 t)) (H' ++ F)) := by
  obtain ⟨b, bv, Hm, rfl, hok, hlen, hr, rfl⟩ := h
  obtain ⟨g, cap, c, Hi, Hr, rfl, hc1, hc2, hk, hcl, ⟨gp, cp, rfl, hrow⟩, hcell, hopen, hsame, hset⟩ := hr.open2 hx
  have hxo := hok x (List.mem_of_getElem? hx)
  have hrot : ∀ (w : World) (F : HL), Holds w (((b, Obj.cells #[.slice (some ⟨g, 0, none⟩) y.length cap] 128) :: Hm) ++ F) → Holds w (Hi ++ (Hr ++ ((b, .cells #[.slice (some ⟨g, 0, none⟩) y.length cap] 128) :: F))) := by
    intro w F hH
    refine hopen w _ ?_
    exact Holds.swap (A := [(b, Obj.cells #[.slice (some ⟨g, 0, none⟩) y.length cap] 128)]) (B := Hm) (by simpa using hH)
  have hback : ∀ (w : World) (F : HL) (y' : List YB) (H' : HL), y'.length = y.length → (∀ x ∈ y', x.ok) → Rows2 ybR 131 3 (.slice (some ⟨g, 0, none⟩) y.length cap) y' H' → Holds w (H' ++ ((b, .cells #[.slice (some ⟨g, 0, none⟩) y.length cap] 128) :: F)) →
      ∃ H2, IsYard (.pointer (some ⟨b, 0, none⟩)) y' H2 ∧ Holds w (H2 ++ F) := by
    intro w F y' H' hl ho hr' hH'
    refine ⟨(b, .cells #[.slice (some ⟨g, 0, none⟩) y.length cap] 128) :: H', ⟨b, _, H', rfl, ho, by omega, hr', rfl⟩, ?_⟩
    have := Holds.swap (A := H') (B := [(b, Obj.cells #[.slice (some ⟨g, 0, none⟩) y.length cap] 128)]) (C := F) (by simpa using hH')
    simpa using this
  have hsetok : ∀ x' : YB, x'.ok → ∀ z ∈ y.set k x', z.ok := by
    intro x' hx' z hz
    rcases List.mem_or_eq_of_mem_set hz with h | h
    · exact hok z h
    · rw [h]; exact hx'
  refine ⟨b, g, cap, gp, cp, rfl, hc1, hc2, hk, hxo, ?_, ?_, ?_, ?_, ?_⟩
  · intro w F hH
    have h1 := hrot w F hH
    have h2 := (hcell w _ h1.right).2
    have e0 := h2 0 (by omega)
    have e1 := h2 1 (by omega)
    have e2 := h2 2 (by omega)
    exact ⟨hH.hcell 0, by simpa using e0.1, by simpa using e1.1, by simpa using e2.1, by simpa using e0.2, e1.2, hrow.reads h1⟩
  · intro w F u hH hou
    obtain ⟨H', h3, h4⟩ := hset w _ 0 (.int .i64 u) { x with state := u } Hi (by omega) ⟨gp, cp, rfl, hrow⟩ (hrot w F hH)
    obtain ⟨H2, h5, h6⟩ := hback _ F _ H' (by simp) (hsetok _ hou) h3 h4
    exact ⟨H2, h5, by simpa using h6⟩
  · intro w F u hH hou
    obtain ⟨H', h3, h4⟩ := hset w _ 1 (.int .i64 u) { x with taken := u } Hi (by omega) ⟨gp, cp, rfl, hrow⟩ (hrot w F hH)
    obtain ⟨H2, h5, h6⟩ := hback _ F _ H' (by simp) (hsetok _ hou) h3 h4
    exact ⟨H2, h5, h6⟩
  · intro i hi w F hH
    have h1 := hrot w F hH
    have hfl : (x.pages.map pageC).flatten.length = x.pages.length * 2 := by
      have := flat_len (size := 2) (x.pages.map pageC) (by intro z hz; obtain ⟨a, _, rfl⟩ := List.mem_map.1 hz; rfl)
      simpa using this
    have hpc : ∀ c ∈ x.pages.map pageC, c.length = 2 := by intro z hz; obtain ⟨a, _, rfl⟩ := List.mem_map.1 hz; rfl
    have hgi : (x.pages.map pageC)[i]? = some (pageC x.pages[i]) := by simp [hi]
    have hset0 : ∀ u : Bool, (x.pages.map pageC).flatten.set (i * 2) (.bool u) = ((x.pages.set i (u, x.pages[i].2)).map pageC).flatten := by
      intro u
      have := flat_set (size := 2) (x.pages.map pageC) hpc i 0 (pageC x.pages[i]) (.bool u) hgi (by omega)
      rw [Nat.add_zero] at this
      rw [this, List.map_set]; rfl
    have hset1 : ∀ u : Bool, (x.pages.map pageC).flatten.set (i * 2 + 1) (.bool u) = ((x.pages.set i (x.pages[i].1, u)).map pageC).flatten := by
      intro u
      have := flat_set (size := 2) (x.pages.map pageC) hpc i 1 (pageC x.pages[i]) (.bool u) hgi (by omega)
      rw [this, List.map_set]; rfl
    have hgd : x.pages.getD i (false, false) = x.pages[i] := by simp [List.getD, hi]
    obtain ⟨g0, cap0, hv0, _, _, _, _, hf0, hs0⟩ := hrow.cell h1 (j := i * 2) (by omega)
    injection hv0 with hv0 _ hc0
    injection hv0 with hv0
    injection hv0 with hv0
    subst hv0
    obtain ⟨g1, cap1, hv1, _, _, _, _, hf1, hs1⟩ := hrow.cell h1 (j := i * 2 + 1) (by omega)
    injection hv1 with hv1 _ hc1'
    injection hv1 with hv1
    injection hv1 with hv1
    subst hv1
    refine ⟨hf0, hf1, fun u => ?_, fun u => ?_⟩
    · obtain ⟨Ha, ha, hHa⟩ := hs0 w _ h1 (.bool u.1)
      rw [hset0] at ha
      have hpl : (x.pages.set i (u.1, x.pages[i].2)).length = x.pages.length := by simp
      have hfl2 : ((x.pages.set i (u.1, x.pages[i].2)).map pageC).flatten.length = x.pages.length * 2 := by
        have := flat_len (size := 2) ((x.pages.set i (u.1, x.pages[i].2)).map pageC) (by intro z hz; obtain ⟨a, _, rfl⟩ := List.mem_map.1 hz; rfl)
        simpa using this
      obtain ⟨g2, cap2, hv2, _, _, _, _, _, hs2⟩ := ha.cell hHa (j := i * 2 + 1) (by omega)
      injection hv2 with hv2 _ hc2'
      injection hv2 with hv2
      injection hv2 with hv2
      subst hv2
      obtain ⟨Hb, hb, hHb⟩ := hs2 _ _ hHa (.bool u.2)
      have hset2 : ((x.pages.set i (u.1, x.pages[i].2)).map pageC).flatten.set (i * 2 + 1) (.bool u.2) = ((x.pages.set i u).map pageC).flatten := by
        have := flat_set (size := 2) ((x.pages.set i (u.1, x.pages[i].2)).map pageC) (by intro z hz; obtain ⟨a, _, rfl⟩ := List.mem_map.1 hz; rfl) i 1 (pageC (u.1, x.pages[i].2)) (.bool u.2) (by simp [hi]) (by omega)
        rw [this]; simp only [List.map_set, List.set_set]; rfl
      rw [hset2] at hb
      obtain ⟨H', h3, h4⟩ := hsame _ _ { x with pages := x.pages.set i u } Hb ⟨gp, cp, by simp, by simpa using hb⟩ hHb
      exact hback _ F _ H' (by simp) (hsetok _ ⟨hxo.1, hxo.2.1, by simpa using hxo.2.2.1, hxo.2.2.2⟩) h3 h4
    · obtain ⟨Hb, hb, hHb⟩ := hs1 w _ h1 (.bool u)
      rw [hset1] at hb
      rw [hgd]
      obtain ⟨H', h3, h4⟩ := hsame _ _ { x with pages := x.pages.set i (x.pages[i].1, u) } Hb ⟨gp, cp, by simp, by simpa using hb⟩ hHb
      exact hback _ F _ H' (by simp) (hsetok _ ⟨hxo.1, hxo.2.1, by simpa using hxo.2.2.1, hxo.2.2.2⟩) h3 h4
  · intro w F u t hH hou
    obtain ⟨H', h3, h4⟩ := hset w _ 0 (.int .i64 u) { x with state := u } Hi (by omega) ⟨gp, cp, rfl, hrow⟩ (hrot w F hH)
    have hx2 : (y.set k { x with state := u })[k]? = some { x with state := u } := by simp [hk]
    obtain ⟨g2, cap2, c2, Hi2, Hr2, hv2, _, _, _, _, ⟨gp2, cp2, rfl, hrow2⟩, hcell2, hopen2, _, hset2⟩ := h3.open2 hx2
    injection hv2 with hv2 _ hcc
    injection hv2 with hv2
    injection hv2 with hv2
    subst hv2
    have h5 := hopen2 _ _ h4
    have h6 := (hcell2 _ _ h5.right).2 1 (by omega)
    obtain ⟨H2, h7, h8⟩ := hset2 _ _ 1 (.int .i64 t) { x with state := u, taken := t } Hi2 (by omega) ⟨gp2, cp2, rfl, hrow2⟩ h5
    rw [List.set_set] at h7
    obtain ⟨H3, h9, h10⟩ := hback _ F _ H2 (by simp) (hsetok _ hou) (by simpa using h7) h8
    refine ⟨by simpa using h6.2, by simpa using h6.1, H3, h9, by simpa using h10⟩
end Go.Proofs.Yteaeahhjkagbdaa
