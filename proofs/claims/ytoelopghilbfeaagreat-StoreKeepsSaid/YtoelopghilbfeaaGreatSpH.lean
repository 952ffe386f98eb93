/-
  Chapter 16, plain: blocks are worn evenly.
-/
import Derived.Test.YtoelopghilbfeaaGreatSpX
namespace Go.Proofs.YtoelopghilbfeaaGreat
open Go.RowKit
set_option linter.unusedSimpArgs false
set_option linter.unusedVariables false

variable {s s' : SM} {c c' : CM}
structure EvenW (B : Nat) (w nx : Nat → Int) (op m : Int) : Prop where
  m0 : 0 ≤ m
  e1 : ∀ j, j < B → m ≤ w j ∧ w j ≤ m + 2
  e2 : ∀ j : Nat, j < B → op ≠ j → w j ≤ m + 1
  e3 : ∀ j, j < B → w j = m + 2 → ∃ j0, j0 < B ∧ w j0 = m ∧ 0 < nx j0 ∧ ∀ j1, j1 < B → w j1 = m → j1 = j0
  e4 : ∀ j, j < B → nx j = 0 → w j = 0
theorem even_step {B : Nat} {w nx w' nx' : Nat → Int} {op m : Int} {k : Nat} (h : EvenW B w nx op m) (hk : k < B) (hop : -1 ≤ op ∧ op < B) (hko : op ≠ k) (hmin : ∀ j : Nat, j < B → op ≠ j → w k ≤ w j) (hfull : ∀ j : Nat, op = j → 0 < nx j) (hnx : 0 ≤ nx k)
    (h1 : ∀ j, j < B → j ≠ k → w' j = w j ∧ nx' j = nx j) (h2 : w' k = if 0 < nx k then w k + 1 else w k) (h3 : 0 < nx' k) : ∃ m', EvenW B w' nx' k m' := by
  obtain ⟨m0, e1, e2, e3, e4⟩ := h
  have hE4 : ∀ j, j < B → nx' j = 0 → w' j = 0 := by
    intro j hj h0
    by_cases e : j = k
    · subst e; omega
    · rw [(h1 j hj e).1]; rw [(h1 j hj e).2] at h0; exact e4 j hj h0
  have hk1 := e1 k hk
  have hk2 := e2 k hk hko
  by_cases hA : w k = m
  · by_cases hn : 0 < nx k
    · rw [if_pos hn] at h2
      by_cases hop2 : ∃ o : Nat, o < B ∧ w o = m + 2
      · obtain ⟨o, ho, hw⟩ := hop2
        obtain ⟨j0, hj0, hw0, hx0, hu⟩ := e3 o ho hw
        have hkj := hu k hk hA
        refine ⟨m + 1, by omega, ?_, ?_, ?_, hE4⟩
        · intro j hj
          by_cases e : j = k
          · subst e; omega
          · rw [(h1 j hj e).1]
            have := e1 j hj
            have : w j ≠ m := fun e2 => e ((hu j hj e2).trans hkj.symm)
            omega
        · intro j hj hjk
          have e : j ≠ k := by omega
          rw [(h1 j hj e).1]
          have := e1 j hj
          omega
        · intro j hj hj2
          by_cases e : j = k
          · subst e; omega
          · rw [(h1 j hj e).1] at hj2
            have := e1 j hj
            omega
      · refine ⟨m, m0, ?_, ?_, ?_, hE4⟩
        · intro j hj
          by_cases e : j = k
          · subst e; omega
          · rw [(h1 j hj e).1]; exact e1 j hj
        · intro j hj hjk
          have e : j ≠ k := by omega
          rw [(h1 j hj e).1]
          have := e1 j hj
          have : w j ≠ m + 2 := fun e2 => hop2 ⟨j, hj, e2⟩
          omega
        · intro j hj hj2
          by_cases e : j = k
          · subst e; omega
          · rw [(h1 j hj e).1] at hj2
            exact absurd ⟨j, hj, hj2⟩ hop2
    · rw [if_neg hn] at h2
      have hop2 : ¬ ∃ o : Nat, o < B ∧ w o = m + 2 := by
        rintro ⟨o, ho, hw⟩
        obtain ⟨j0, hj0, hw0, hx0, hu⟩ := e3 o ho hw
        have := hu k hk hA
        subst this
        exact hn hx0
      refine ⟨m, m0, ?_, ?_, ?_, hE4⟩
      · intro j hj
        by_cases e : j = k
        · subst e; omega
        · rw [(h1 j hj e).1]; exact e1 j hj
      · intro j hj hjk
        have e : j ≠ k := by omega
        rw [(h1 j hj e).1]
        have := e1 j hj
        have : w j ≠ m + 2 := fun e2 => hop2 ⟨j, hj, e2⟩
        omega
      · intro j hj hj2
        by_cases e : j = k
        · subst e; omega
        · rw [(h1 j hj e).1] at hj2
          exact absurd ⟨j, hj, hj2⟩ hop2
  · have hn : 0 < nx k := by
      by_cases e : nx k = 0
      · have := e4 k hk e; omega
      · omega
    rw [if_pos hn] at h2
    by_cases hom : ∃ o : Nat, o < B ∧ w o = m
    · obtain ⟨o, ho, hw⟩ := hom
      have hoo : op = o := by
        by_cases e : op = o
        · exact e
        · have := hmin o ho e; omega
      have hok : o ≠ k := by intro e; subst e; exact hA hw
      refine ⟨m, m0, ?_, ?_, ?_, hE4⟩
      · intro j hj
        by_cases e : j = k
        · subst e; omega
        · rw [(h1 j hj e).1]; exact e1 j hj
      · intro j hj hjk
        have e : j ≠ k := by omega
        rw [(h1 j hj e).1]
        by_cases e2' : op = j
        · have : j = o := by omega
          subst this; omega
        · exact e2 j hj e2'
      · intro j hj hj2
        refine ⟨o, ho, by rw [(h1 o ho hok).1]; exact hw, by rw [(h1 o ho hok).2]; exact hfull o hoo, ?_⟩
        intro j1 hj1 hw1
        by_cases e : j1 = k
        · subst e; omega
        · rw [(h1 j1 hj1 e).1] at hw1
          by_cases e3' : op = j1
          · omega
          · have := hmin j1 hj1 e3'; omega
    · refine ⟨m + 1, by omega, ?_, ?_, ?_, hE4⟩
      · intro j hj
        by_cases e : j = k
        · subst e; omega
        · rw [(h1 j hj e).1]
          have := e1 j hj
          have : w j ≠ m := fun e2 => hom ⟨j, hj, e2⟩
          omega
      · intro j hj hjk
        have e : j ≠ k := by omega
        rw [(h1 j hj e).1]
        have := e1 j hj
        omega
      · intro j hj hj2
        by_cases e : j = k
        · subst e; omega
        · rw [(h1 j hj e).1] at hj2
          have := e1 j hj
          omega
/-- the least worn is taken -/
theorem head_min (hC : Cont s c) {k : Nat} {L : List Int} (hE : emptyL s c = (k : Int) :: L) (hw : ∀ j : Nat, j < s.B → 0 ≤ c.wearOf j ∧ c.wearOf j ≤ 1000000) {j : Nat} (hj : (j : Int) ∈ emptyL s c) : c.wearOf k ≤ c.wearOf j := by
  have hkB : k < s.B := by
    obtain ⟨k', e, h, _⟩ := (emptyL_mem hC).1 (show (k : Int) ∈ emptyL s c by rw [hE]; exact List.mem_cons_self)
    omega
  have hjB : j < s.B := by
    obtain ⟨k', e, h, _⟩ := (emptyL_mem hC).1 hj
    omega
  have hkey : ∀ i : Nat, i < s.B → keyW (wearsL s c) i = c.wearOf i := by
    intro i hi
    unfold keyW wearsL rdI
    rw [Int.toNat_natCast, List.getD_eq_getElem?_getD, List.getElem?_map, List.getElem?_range hi]
    have := hw i hi
    show (if c.wearOf (i : Nat) < 0 ∨ 1073741824 < c.wearOf (i : Nat) then 0 else c.wearOf (i : Nat)) = _
    rw [if_neg (by omega)]
  have hs : (emptyL s c).Pairwise fun a b => keyW (wearsL s c) a ≤ keyW (wearsL s c) b := sortK_sorted _ _
  rw [hE] at hs hj
  rw [← hkey k hkB, ← hkey j hjB]
  rcases List.mem_cons.1 hj with e | e
  · rw [e]; exact Int.le_refl _
  · exact (List.pairwise_cons.1 hs).1 _ e
structure SprI (n : Nat) (old : Int) (s : SM) (c : CM) : Prop where
  cont : Cont s c
  live : Live s c
  calm : Calm c 1000000
  geo : s.B = 16 ∧ s.P = 4 ∧ s.Z = 128
  ops : c.ops ≤ 2 * n
  mis : c.misuse = 0
  mark : ∀ (j : Nat) (x : CB), c.blocks[j]? = some x → x.mark = false
  wear : ∀ j : Nat, j < 16 → 0 ≤ c.wearOf j ∧ c.wearOf j ≤ n
  old : (old = -1 ∧ s.op = -1 ∧ ∀ j q : Nat, j < 16 → q < 4 → lookS s.hs ((j : Int) * 4 + q) = none) ∨
    ∃ (k p : Nat) (h : Hd), k < 16 ∧ p < 4 ∧ old = (k : Int) * 4 + p ∧ s.op = k ∧ lookS s.hs ((k : Int) * 4 + p) = some h ∧ ∀ j q : Nat, j < 16 → q < 4 → (j ≠ k ∨ q ≠ p) → lookS s.hs ((j : Int) * 4 + q) = none
  even : ∃ m, EvenW 16 (fun j => c.wearOf j) (fun j => c.nextOf j) s.op m
theorem SprI.put {n : Nat} {old : Int} (I : SprI n old s c) (hn : n ≤ 1000) {h : Hd} {d : List UInt8} (hm : h.may = true) (hi : HdIn h) (hd : d.length = 128) :
    (putA s c h d).2.2.2 = 0 ∧ 0 ≤ (putA s c h d).2.2.1 ∧ (old < 0 → old = -1 ∧ SprI (n + 1) (putA s c h d).2.2.1 (putA s c h d).1 (putA s c h d).2.1) ∧
      (0 ≤ old → (dropS (putA s c h d).1 old).2 = 0 ∧ SprI (n + 1) (putA s c h d).2.2.1 (dropS (putA s c h d).1 old).1 (putA s c h d).2.1) := by
  obtain ⟨hC, hL, hK, ⟨hB, hP, hZ⟩, hops, hmis, hmark, hwear, hold, hev⟩ := I
  have hbl : ∀ j : Nat, j < 16 → ∃ x, c.blocks[j]? = some x := fun j hj => hC.bget (by rw [hB]; exact hj)
  -- of a block that is not the open one nothing is needed
  have hno : ∀ j : Nat, j < 16 → s.op ≠ j → noneed s j := by
    intro j hj hne q hq
    rw [hP] at hq ⊢
    rcases hold with ⟨_, _, h3⟩ | ⟨k, p, g, h1, h2, h3, h4, h5, h6⟩
    · exact h3 j q hj hq
    · exact h6 j q hj hq (Or.inl (by rintro rfl; exact hne h4))
  have hmem : ∀ j : Nat, j < 16 → s.op ≠ j → leftI s c = 0 → (j : Int) ∈ emptyL s c := by
    intro j hj hne h0
    obtain ⟨x, hx⟩ := hbl j hj
    exact (emptyL_mem hC).2 ⟨j, rfl, by omega, (countB_iff hC hx).2 ⟨hmark j x hx, hno j hj hne, Or.inl hne⟩⟩
  obtain ⟨R, hcase⟩ := put_calm hC hL hK (by omega) hm hi (by rw [hZ]; exact hd)
  have hop := hC.opb
  have hnz : ∃ j : Nat, j < 16 ∧ s.op ≠ j := by
    by_cases e : s.op = (0 : Nat)
    · exact ⟨1, by omega, by omega⟩
    · exact ⟨0, by omega, e⟩
  rcases hcase with ⟨_, h0, hE⟩ | ⟨k, p, x, x', Q⟩
  · obtain ⟨j, hj, hne⟩ := hnz
    have := hmem j hj hne h0
    rw [hE] at this
    exact absurd this (by simp)
  · generalize putA s c h d = r at R Q
    have hkB : k < 16 := by rw [← hB]; exact Q.kb
    have hpP : p < 4 := by rw [← hP]; exact Q.pb
    have hcode : r.2.2.2 = 0 := by rw [Q.code]
    have hnum : r.2.2.1 = (k : Int) * 4 + p := by rw [Q.code, hP]; rfl
    have hi0 := (List.getElem?_eq_some_iff.1 Q.blk).1
    have hwj : ∀ j : Nat, j < 16 → j ≠ k → r.2.1.wearOf j = c.wearOf j ∧ r.2.1.nextOf j = c.nextOf j := by
      intro j hj hjk
      obtain ⟨xj, hxj⟩ := hbl j hj
      have hxj' : r.2.1.blocks[j]? = some xj := by rw [Q.blks, set_at _ _ _ _ hi0, if_neg (Ne.symm hjk)]; exact hxj
      rw [wear_at hxj, wear_at hxj', next_at hxj, next_at hxj']
      exact ⟨rfl, rfl⟩
    have hxk' : r.2.1.blocks[k]? = some x' := by rw [Q.blks, set_at _ _ _ _ hi0, if_pos rfl]
    have hwk := wear_at hxk'
    have hwk0 := wear_at Q.blk
    have hnk := next_at hxk'
    have hnk0 := next_at Q.blk
    have hnx := Q.next
    have hshx := (hC.shape k x Q.blk).2.1
    have hww : x'.wear = x.wear ∨ x'.wear = x.wear + 1 := by
      rcases Q.way with ⟨_, _, _, e, _⟩ | ⟨_, _, _, _, e, _⟩
      · exact Or.inl e
      · rw [e]; split
        · exact Or.inr rfl
        · exact Or.inl rfl
    have hlk : ∀ m, lookS r.1.hs m = if m = (k : Int) * 4 + p then some h else lookS s.hs m := by
      intro m
      have e := Q.hs
      have f := Q.free
      rw [hP] at e f
      rw [e]
      exact lookS_put h m f
    have hfree : lookS s.hs ((k : Int) * 4 + p) = none := by have f := Q.free; rw [hP] at f; exact f
    have hevn : ∃ m, EvenW 16 (fun j => r.2.1.wearOf j) (fun j => r.2.1.nextOf j) r.1.op m := by
      obtain ⟨m, hm⟩ := hev
      rw [Q.op]
      rcases Q.way with ⟨e1, e2, e3, e4, _⟩ | ⟨e1, e2, ⟨L, e3⟩, e4, e5, _⟩
      · refine ⟨m, hm.m0, ?_, ?_, ?_, ?_⟩
        · intro j hj
          by_cases e : j = k
          · subst e; show m ≤ r.2.1.wearOf j ∧ r.2.1.wearOf j ≤ m + 2; rw [hwk, e4, ← hwk0]; exact hm.e1 j hj
          · show m ≤ r.2.1.wearOf j ∧ r.2.1.wearOf j ≤ m + 2; rw [(hwj j hj e).1]; exact hm.e1 j hj
        · intro j hj hjk
          have e : j ≠ k := by omega
          show r.2.1.wearOf j ≤ m + 1
          rw [(hwj j hj e).1]
          exact hm.e2 j hj (by omega)
        · intro j hj hj2
          have hwall : ∀ i, i < 16 → r.2.1.wearOf (i : Nat) = c.wearOf i := by
            intro i hi'
            by_cases e : i = k
            · subst e; rw [hwk, e4, hwk0]
            · exact (hwj i hi' e).1
          have hj2' : r.2.1.wearOf (j : Nat) = m + 2 := hj2
          rw [hwall j hj] at hj2'
          obtain ⟨j0, a1, a2, a3, a4⟩ := hm.e3 j hj hj2'
          refine ⟨j0, a1, by show r.2.1.wearOf (j0 : Nat) = m; rw [hwall j0 a1]; exact a2, ?_, fun j1 b1 b2 => a4 j1 b1 (by have b2' : r.2.1.wearOf (j1 : Nat) = m := b2; rw [hwall j1 b1] at b2'; exact b2')⟩
          show 0 < r.2.1.nextOf (j0 : Nat)
          by_cases e : j0 = k
          · subst e; rw [hnk]; omega
          · rw [(hwj j0 a1 e).2]; exact a3
        · intro j hj h0
          have h0' : r.2.1.nextOf (j : Nat) = 0 := h0
          show r.2.1.wearOf (j : Nat) = 0
          by_cases e : j = k
          · subst e; rw [hnk] at h0'; omega
          · rw [(hwj j hj e).1]; rw [(hwj j hj e).2] at h0'; exact hm.e4 j hj h0'
      · have hko : s.op ≠ (k : Int) := by
          intro e
          rcases hold with ⟨_, h2, _⟩ | ⟨k2, p2, g, h1, h2, h3, h4, h5, h6⟩
          · omega
          · have : k2 = k := by omega
            subst this
            have := e4 p2 (by rw [hP]; exact h2)
            rw [hP] at this
            have this2 : lookS s.hs ((k2 : Int) * 4 + p2) = none := this
            rw [h5] at this2
            exact absurd this2 (by simp)
        refine even_step (k := k) hm hkB (by omega) hko ?_ ?_ (by rw [hnk0]; exact hshx) hwj ?_ (by rw [hnk]; omega)
        · intro j hj hne
          exact head_min hC e3 (fun i hi' => by have := hwear i (by omega); omega) (hmem j hj hne e1)
        · intro j hj
          obtain ⟨xj, hxj⟩ := hbl j (by omega)
          rw [left_at hC hj hxj] at e1
          rw [next_at hxj]
          omega
        · rw [hwk, hwk0, hnk0]; exact e5
    have hmk : ∀ (j : Nat) (xj : CB), r.2.1.blocks[j]? = some xj → xj.mark = false := by
      intro j xj hxj
      rw [Q.blks, set_at _ _ _ _ hi0] at hxj
      by_cases e : k = j
      · rw [if_pos e] at hxj; injection hxj with hxj; rw [← hxj]; exact Q.mark.2
      · rw [if_neg e] at hxj; exact hmark j xj hxj
    have hwr : ∀ j : Nat, j < 16 → 0 ≤ r.2.1.wearOf j ∧ r.2.1.wearOf j ≤ (n + 1 : Nat) := by
      intro j hj
      by_cases e : j = k
      · subst e
        have := hwear j hj
        rw [hwk]
        rw [hwk0] at this
        omega
      · rw [(hwj j hj e).1]
        have := hwear j hj
        omega
    have hopsr : r.2.1.ops ≤ 2 * ((n + 1 : Nat) : Int) := by have := Q.ops; omega
    refine ⟨hcode, by omega, ?_, ?_⟩
    · intro ho
      rcases hold with ⟨h1, h2, h3⟩ | ⟨k2, p2, g, h1, h2, h3, _⟩
      · refine ⟨h1, R.cont, Q.live, Q.calm, ⟨R.B.trans hB, R.P.trans hP, R.Z.trans hZ⟩, hopsr, R.mis.trans hmis, hmk, hwr, Or.inr ⟨k, p, h, hkB, hpP, hnum, Q.op, by rw [hlk, if_pos rfl], ?_⟩, hevn⟩
        intro j q hj hq hne
        rw [hlk, if_neg (fun e => by obtain ⟨a, b⟩ := key_inj (P := 4) hq hpP e; omega)]
        exact h3 j q hj hq
      · omega
    · intro ho
      rcases hold with ⟨h1, h2, h3⟩ | ⟨k2, p2, g, h1, h2, h3, h4, h5, h6⟩
      · omega
      · have hrP : r.1.P = 4 := R.P.trans hP
        have hrB : r.1.B = 16 := R.B.trans hB
        have hne : ¬ ((k2 : Int) * 4 + p2 = (k : Int) * 4 + p) := by
          intro e
          rw [e, hfree] at h5
          exact absurd h5 (by simp)
        have hl2 : lookS r.1.hs ((k2 : Int) * r.1.P + p2) = some g := by rw [hrP]; show lookS r.1.hs ((k2 : Int) * 4 + p2) = _; rw [hlk, if_neg hne]; exact h5
        obtain ⟨d1, d2, d3, d4, d5, d6, d7, d8⟩ := drop_spec R.cont (k := k2) (p := p2) (by omega) (by omega) hl2
        rw [hrP, ← show old = (k2 : Int) * ((4 : Nat) : Int) + p2 from h3] at d1 d2 d3 d4 d5 d6 d7 d8
        refine ⟨d1, d2, d3 Q.live, Q.calm, ⟨d4.trans hrB, d5, d6.trans (R.Z.trans hZ)⟩, hopsr, R.mis.trans hmis, hmk, hwr, Or.inr ⟨k, p, h, hkB, hpP, hnum, d7.trans Q.op, ?_, ?_⟩, by rw [d7]; exact hevn⟩
        · rw [d8, if_neg (fun e => hne (h3.symm.trans e.symm)), hlk, if_pos rfl]
        · intro j q hj hq hjq
          rw [d8]
          split
          · rfl
          · next e0 =>
            rw [hlk, if_neg (fun e => by obtain ⟨a, b⟩ := key_inj (P := 4) hq hpP e; omega)]
            by_cases e1 : j = k2 ∧ q = p2
            · obtain ⟨rfl, rfl⟩ := e1
              exact absurd h3.symm e0
            · exact h6 j q hj hq (by omega)
end Go.Proofs.YtoelopghilbfeaaGreat
