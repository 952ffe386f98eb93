/-
  Texts put together: YtoelopghilbfeaaGreatSpH, YtoelopghilbfeaaGreatSpI, YtoelopghilbfeaaGreatSpJ, YtoelopghilbfeaaGreatSpK, YtoelopghilbfeaaGreatSpL.
-/
import Derived.Test.YtoelopghilbfeaaGreatSpX
namespace Go.Proofs.YtoelopghilbfeaaGreat
open Go.RowKit
set_option linter.unusedSimpArgs false
set_option linter.unusedVariables false

variable {s s' : SM} {c c' : CM}
structure EvenW (B : Nat) (w nx : Nat → Int) (op m : Int) : Prop where
  m0 : 0 ≤ m
  e1 : ∀ j, j < B → m ≤ w j ∧ w j ≤ m + 2
  e2 : ∀ j : Nat, j < B → op ≠ j → w j ≤ m + 1
  e3 : ∀ j, j < B → w j = m + 2 → ∃ j0, j0 < B ∧ w j0 = m ∧ 0 < nx j0 ∧ ∀ j1, j1 < B → w j1 = m → j1 = j0
  e4 : ∀ j, j < B → nx j = 0 → w j = 0
theorem even_step {B : Nat} {w nx w' nx' : Nat → Int} {op m : Int} {k : Nat} (h : EvenW B w nx op m) (hk : k < B) (hop : -1 ≤ op ∧ op < B) (hko : op ≠ k) (hmin : ∀ j : Nat, j < B → op ≠ j → w k ≤ w j) (hfull : ∀ j : Nat, op = j → 0 < nx j) (hnx : 0 ≤ nx k)
    (h1 : ∀ j, j < B → j ≠ k → w' j = w j ∧ nx' j = nx j) (h2 : w' k = if 0 < nx k then w k + 1 else w k) (h3 : 0 < nx' k) : ∃ m', EvenW B w' nx' k m' := by
  obtain ⟨m0, e1, e2, e3, e4⟩ := h
  have hE4 : ∀ j, j < B → nx' j = 0 → w' j = 0 := by
    intro j hj h0
    by_cases e : j = k
    · subst e; omega
    · rw [(h1 j hj e).1]; rw [(h1 j hj e).2] at h0; exact e4 j hj h0
  have hk1 := e1 k hk
  have hk2 := e2 k hk hko
  by_cases hA : w k = m
  · by_cases hn : 0 < nx k
    · rw [if_pos hn] at h2
      by_cases hop2 : ∃ o : Nat, o < B ∧ w o = m + 2
      · obtain ⟨o, ho, hw⟩ := hop2
        obtain ⟨j0, hj0, hw0, hx0, hu⟩ := e3 o ho hw
        have hkj := hu k hk hA
        refine ⟨m + 1, by omega, ?_, ?_, ?_, hE4⟩
        · intro j hj
          by_cases e : j = k
          · subst e; omega
          · rw [(h1 j hj e).1]
            have := e1 j hj
            have : w j ≠ m := fun e2 => e ((hu j hj e2).trans hkj.symm)
            omega
        · intro j hj hjk
          have e : j ≠ k := by omega
          rw [(h1 j hj e).1]
          have := e1 j hj
          omega
        · intro j hj hj2
          by_cases e : j = k
          · subst e; omega
          · rw [(h1 j hj e).1] at hj2
            have := e1 j hj
            omega
      · refine ⟨m, m0, ?_, ?_, ?_, hE4⟩
        · intro j hj
          by_cases e : j = k
          · subst e; omega
          · rw [(h1 j hj e).1]; exact e1 j hj
        · intro j hj hjk
          have e : j ≠ k := by omega
          rw [(h1 j hj e).1]
          have := e1 j hj
          have : w j ≠ m + 2 := fun e2 => hop2 ⟨j, hj, e2⟩
          omega
        · intro j hj hj2
          by_cases e : j = k
          · subst e; omega
          · rw [(h1 j hj e).1] at hj2
            exact absurd ⟨j, hj, hj2⟩ hop2
    · rw [if_neg hn] at h2
      have hop2 : ¬ ∃ o : Nat, o < B ∧ w o = m + 2 := by
        rintro ⟨o, ho, hw⟩
        obtain ⟨j0, hj0, hw0, hx0, hu⟩ := e3 o ho hw
        have := hu k hk hA
        subst this
        exact hn hx0
      refine ⟨m, m0, ?_, ?_, ?_, hE4⟩
      · intro j hj
        by_cases e : j = k
        · subst e; omega
        · rw [(h1 j hj e).1]; exact e1 j hj
      · intro j hj hjk
        have e : j ≠ k := by omega
        rw [(h1 j hj e).1]
        have := e1 j hj
        have : w j ≠ m + 2 := fun e2 => hop2 ⟨j, hj, e2⟩
        omega
      · intro j hj hj2
        by_cases e : j = k
        · subst e; omega
        · rw [(h1 j hj e).1] at hj2
          exact absurd ⟨j, hj, hj2⟩ hop2
  · have hn : 0 < nx k := by
      by_cases e : nx k = 0
      · have := e4 k hk e; omega
      · omega
    rw [if_pos hn] at h2
    by_cases hom : ∃ o : Nat, o < B ∧ w o = m
    · obtain ⟨o, ho, hw⟩ := hom
      have hoo : op = o := by
        by_cases e : op = o
        · exact e
        · have := hmin o ho e; omega
      have hok : o ≠ k := by intro e; subst e; exact hA hw
      refine ⟨m, m0, ?_, ?_, ?_, hE4⟩
      · intro j hj
        by_cases e : j = k
        · subst e; omega
        · rw [(h1 j hj e).1]; exact e1 j hj
      · intro j hj hjk
        have e : j ≠ k := by omega
        rw [(h1 j hj e).1]
        by_cases e2' : op = j
        · have : j = o := by omega
          subst this; omega
        · exact e2 j hj e2'
      · intro j hj hj2
        refine ⟨o, ho, by rw [(h1 o ho hok).1]; exact hw, by rw [(h1 o ho hok).2]; exact hfull o hoo, ?_⟩
        intro j1 hj1 hw1
        by_cases e : j1 = k
        · subst e; omega
        · rw [(h1 j1 hj1 e).1] at hw1
          by_cases e3' : op = j1
          · omega
          · have := hmin j1 hj1 e3'; omega
    · refine ⟨m + 1, by omega, ?_, ?_, ?_, hE4⟩
      · intro j hj
        by_cases e : j = k
        · subst e; omega
        · rw [(h1 j hj e).1]
          have := e1 j hj
          have : w j ≠ m := fun e2 => hom ⟨j, hj, e2⟩
          omega
      · intro j hj hjk
        have e : j ≠ k := by omega
        rw [(h1 j hj e).1]
        have := e1 j hj
        omega
      · intro j hj hj2
        by_cases e : j = k
        · subst e; omega
        · rw [(h1 j hj e).1] at hj2
          have := e1 j hj
          omega
/-- the least worn is taken -/
theorem head_min (hC : Cont s c) {k : Nat} {L : List Int} (hE : emptyL s c = (k : Int) :: L) (hw : ∀ j : Nat, j < s.B → 0 ≤ c.wearOf j ∧ c.wearOf j ≤ 1000000) {j : Nat} (hj : (j : Int) ∈ emptyL s c) : c.wearOf k ≤ c.wearOf j := by
  have hkB : k < s.B := by
    obtain ⟨k', e, h, _⟩ := (emptyL_mem hC).1 (show (k : Int) ∈ emptyL s c by rw [hE]; exact List.mem_cons_self)
    omega
  have hjB : j < s.B := by
    obtain ⟨k', e, h, _⟩ := (emptyL_mem hC).1 hj
    omega
  have hkey : ∀ i : Nat, i < s.B → keyW (wearsL s c) i = c.wearOf i := by
    intro i hi
    unfold keyW wearsL rdI
    rw [Int.toNat_natCast, List.getD_eq_getElem?_getD, List.getElem?_map, List.getElem?_range hi]
    have := hw i hi
    show (if c.wearOf (i : Nat) < 0 ∨ 1073741824 < c.wearOf (i : Nat) then 0 else c.wearOf (i : Nat)) = _
    rw [if_neg (by omega)]
  have hs : (emptyL s c).Pairwise fun a b => keyW (wearsL s c) a ≤ keyW (wearsL s c) b := sortK_sorted _ _
  rw [hE] at hs hj
  rw [← hkey k hkB, ← hkey j hjB]
  rcases List.mem_cons.1 hj with e | e
  · rw [e]; exact Int.le_refl _
  · exact (List.pairwise_cons.1 hs).1 _ e
structure SprI (n : Nat) (old : Int) (s : SM) (c : CM) : Prop where
  cont : Cont s c
  live : Live s c
  calm : Calm c 1000000
  geo : s.B = 16 ∧ s.P = 4 ∧ s.Z = 128
  ops : c.ops ≤ 2 * n
  mis : c.misuse = 0
  mark : ∀ (j : Nat) (x : CB), c.blocks[j]? = some x → x.mark = false
  wear : ∀ j : Nat, j < 16 → 0 ≤ c.wearOf j ∧ c.wearOf j ≤ n
  old : (old = -1 ∧ s.op = -1 ∧ ∀ j q : Nat, j < 16 → q < 4 → lookS s.hs ((j : Int) * 4 + q) = none) ∨
    ∃ (k p : Nat) (h : Hd), k < 16 ∧ p < 4 ∧ old = (k : Int) * 4 + p ∧ s.op = k ∧ lookS s.hs ((k : Int) * 4 + p) = some h ∧ ∀ j q : Nat, j < 16 → q < 4 → (j ≠ k ∨ q ≠ p) → lookS s.hs ((j : Int) * 4 + q) = none
  even : ∃ m, EvenW 16 (fun j => c.wearOf j) (fun j => c.nextOf j) s.op m
theorem SprI.put {n : Nat} {old : Int} (I : SprI n old s c) (hn : n ≤ 1000) {h : Hd} {d : List UInt8} (hm : h.may = true) (hi : HdIn h) (hd : d.length = 128) :
    (putA s c h d).2.2.2 = 0 ∧ 0 ≤ (putA s c h d).2.2.1 ∧ (old < 0 → old = -1 ∧ SprI (n + 1) (putA s c h d).2.2.1 (putA s c h d).1 (putA s c h d).2.1) ∧
      (0 ≤ old → (dropS (putA s c h d).1 old).2 = 0 ∧ SprI (n + 1) (putA s c h d).2.2.1 (dropS (putA s c h d).1 old).1 (putA s c h d).2.1) := by
  obtain ⟨hC, hL, hK, ⟨hB, hP, hZ⟩, hops, hmis, hmark, hwear, hold, hev⟩ := I
  have hbl : ∀ j : Nat, j < 16 → ∃ x, c.blocks[j]? = some x := fun j hj => hC.bget (by rw [hB]; exact hj)
  -- of a block that is not the open one nothing is needed
  have hno : ∀ j : Nat, j < 16 → s.op ≠ j → noneed s j := by
    intro j hj hne q hq
    rw [hP] at hq ⊢
    rcases hold with ⟨_, _, h3⟩ | ⟨k, p, g, h1, h2, h3, h4, h5, h6⟩
    · exact h3 j q hj hq
    · exact h6 j q hj hq (Or.inl (by rintro rfl; exact hne h4))
  have hmem : ∀ j : Nat, j < 16 → s.op ≠ j → leftI s c = 0 → (j : Int) ∈ emptyL s c := by
    intro j hj hne h0
    obtain ⟨x, hx⟩ := hbl j hj
    exact (emptyL_mem hC).2 ⟨j, rfl, by omega, (countB_iff hC hx).2 ⟨hmark j x hx, hno j hj hne, Or.inl hne⟩⟩
  obtain ⟨R, hcase⟩ := put_calm hC hL hK (by omega) hm hi (by rw [hZ]; exact hd)
  have hop := hC.opb
  have hnz : ∃ j : Nat, j < 16 ∧ s.op ≠ j := by
    by_cases e : s.op = (0 : Nat)
    · exact ⟨1, by omega, by omega⟩
    · exact ⟨0, by omega, e⟩
  rcases hcase with ⟨_, h0, hE⟩ | ⟨k, p, x, x', Q⟩
  · obtain ⟨j, hj, hne⟩ := hnz
    have := hmem j hj hne h0
    rw [hE] at this
    exact absurd this (by simp)
  · generalize putA s c h d = r at R Q
    have hkB : k < 16 := by rw [← hB]; exact Q.kb
    have hpP : p < 4 := by rw [← hP]; exact Q.pb
    have hcode : r.2.2.2 = 0 := by rw [Q.code]
    have hnum : r.2.2.1 = (k : Int) * 4 + p := by rw [Q.code, hP]; rfl
    have hi0 := (List.getElem?_eq_some_iff.1 Q.blk).1
    have hwj : ∀ j : Nat, j < 16 → j ≠ k → r.2.1.wearOf j = c.wearOf j ∧ r.2.1.nextOf j = c.nextOf j := by
      intro j hj hjk
      obtain ⟨xj, hxj⟩ := hbl j hj
      have hxj' : r.2.1.blocks[j]? = some xj := by rw [Q.blks, set_at _ _ _ _ hi0, if_neg (Ne.symm hjk)]; exact hxj
      rw [wear_at hxj, wear_at hxj', next_at hxj, next_at hxj']
      exact ⟨rfl, rfl⟩
    have hxk' : r.2.1.blocks[k]? = some x' := by rw [Q.blks, set_at _ _ _ _ hi0, if_pos rfl]
    have hwk := wear_at hxk'
    have hwk0 := wear_at Q.blk
    have hnk := next_at hxk'
    have hnk0 := next_at Q.blk
    have hnx := Q.next
    have hshx := (hC.shape k x Q.blk).2.1
    have hww : x'.wear = x.wear ∨ x'.wear = x.wear + 1 := by
      rcases Q.way with ⟨_, _, _, e, _⟩ | ⟨_, _, _, _, e, _⟩
      · exact Or.inl e
      · rw [e]; split
        · exact Or.inr rfl
        · exact Or.inl rfl
    have hlk : ∀ m, lookS r.1.hs m = if m = (k : Int) * 4 + p then some h else lookS s.hs m := by
      intro m
      have e := Q.hs
      have f := Q.free
      rw [hP] at e f
      rw [e]
      exact lookS_put h m f
    have hfree : lookS s.hs ((k : Int) * 4 + p) = none := by have f := Q.free; rw [hP] at f; exact f
    have hevn : ∃ m, EvenW 16 (fun j => r.2.1.wearOf j) (fun j => r.2.1.nextOf j) r.1.op m := by
      obtain ⟨m, hm⟩ := hev
      rw [Q.op]
      rcases Q.way with ⟨e1, e2, e3, e4, _⟩ | ⟨e1, e2, ⟨L, e3⟩, e4, e5, _⟩
      · refine ⟨m, hm.m0, ?_, ?_, ?_, ?_⟩
        · intro j hj
          by_cases e : j = k
          · subst e; show m ≤ r.2.1.wearOf j ∧ r.2.1.wearOf j ≤ m + 2; rw [hwk, e4, ← hwk0]; exact hm.e1 j hj
          · show m ≤ r.2.1.wearOf j ∧ r.2.1.wearOf j ≤ m + 2; rw [(hwj j hj e).1]; exact hm.e1 j hj
        · intro j hj hjk
          have e : j ≠ k := by omega
          show r.2.1.wearOf j ≤ m + 1
          rw [(hwj j hj e).1]
          exact hm.e2 j hj (by omega)
        · intro j hj hj2
          have hwall : ∀ i, i < 16 → r.2.1.wearOf (i : Nat) = c.wearOf i := by
            intro i hi'
            by_cases e : i = k
            · subst e; rw [hwk, e4, hwk0]
            · exact (hwj i hi' e).1
          have hj2' : r.2.1.wearOf (j : Nat) = m + 2 := hj2
          rw [hwall j hj] at hj2'
          obtain ⟨j0, a1, a2, a3, a4⟩ := hm.e3 j hj hj2'
          refine ⟨j0, a1, by show r.2.1.wearOf (j0 : Nat) = m; rw [hwall j0 a1]; exact a2, ?_, fun j1 b1 b2 => a4 j1 b1 (by have b2' : r.2.1.wearOf (j1 : Nat) = m := b2; rw [hwall j1 b1] at b2'; exact b2')⟩
          show 0 < r.2.1.nextOf (j0 : Nat)
          by_cases e : j0 = k
          · subst e; rw [hnk]; omega
          · rw [(hwj j0 a1 e).2]; exact a3
        · intro j hj h0
          have h0' : r.2.1.nextOf (j : Nat) = 0 := h0
          show r.2.1.wearOf (j : Nat) = 0
          by_cases e : j = k
          · subst e; rw [hnk] at h0'; omega
          · rw [(hwj j hj e).1]; rw [(hwj j hj e).2] at h0'; exact hm.e4 j hj h0'
      · have hko : s.op ≠ (k : Int) := by
          intro e
          rcases hold with ⟨_, h2, _⟩ | ⟨k2, p2, g, h1, h2, h3, h4, h5, h6⟩
          · omega
          · have : k2 = k := by omega
            subst this
            have := e4 p2 (by rw [hP]; exact h2)
            rw [hP] at this
            have this2 : lookS s.hs ((k2 : Int) * 4 + p2) = none := this
            rw [h5] at this2
            exact absurd this2 (by simp)
        refine even_step (k := k) hm hkB (by omega) hko ?_ ?_ (by rw [hnk0]; exact hshx) hwj ?_ (by rw [hnk]; omega)
        · intro j hj hne
          exact head_min hC e3 (fun i hi' => by have := hwear i (by omega); omega) (hmem j hj hne e1)
        · intro j hj
          obtain ⟨xj, hxj⟩ := hbl j (by omega)
          rw [left_at hC hj hxj] at e1
          rw [next_at hxj]
          omega
        · rw [hwk, hwk0, hnk0]; exact e5
    have hmk : ∀ (j : Nat) (xj : CB), r.2.1.blocks[j]? = some xj → xj.mark = false := by
      intro j xj hxj
      rw [Q.blks, set_at _ _ _ _ hi0] at hxj
      by_cases e : k = j
      · rw [if_pos e] at hxj; injection hxj with hxj; rw [← hxj]; exact Q.mark.2
      · rw [if_neg e] at hxj; exact hmark j xj hxj
    have hwr : ∀ j : Nat, j < 16 → 0 ≤ r.2.1.wearOf j ∧ r.2.1.wearOf j ≤ (n + 1 : Nat) := by
      intro j hj
      by_cases e : j = k
      · subst e
        have := hwear j hj
        rw [hwk]
        rw [hwk0] at this
        omega
      · rw [(hwj j hj e).1]
        have := hwear j hj
        omega
    have hopsr : r.2.1.ops ≤ 2 * ((n + 1 : Nat) : Int) := by have := Q.ops; omega
    refine ⟨hcode, by omega, ?_, ?_⟩
    · intro ho
      rcases hold with ⟨h1, h2, h3⟩ | ⟨k2, p2, g, h1, h2, h3, _⟩
      · refine ⟨h1, R.cont, Q.live, Q.calm, ⟨R.B.trans hB, R.P.trans hP, R.Z.trans hZ⟩, hopsr, R.mis.trans hmis, hmk, hwr, Or.inr ⟨k, p, h, hkB, hpP, hnum, Q.op, by rw [hlk, if_pos rfl], ?_⟩, hevn⟩
        intro j q hj hq hne
        rw [hlk, if_neg (fun e => by obtain ⟨a, b⟩ := key_inj (P := 4) hq hpP e; omega)]
        exact h3 j q hj hq
      · omega
    · intro ho
      rcases hold with ⟨h1, h2, h3⟩ | ⟨k2, p2, g, h1, h2, h3, h4, h5, h6⟩
      · omega
      · have hrP : r.1.P = 4 := R.P.trans hP
        have hrB : r.1.B = 16 := R.B.trans hB
        have hne : ¬ ((k2 : Int) * 4 + p2 = (k : Int) * 4 + p) := by
          intro e
          rw [e, hfree] at h5
          exact absurd h5 (by simp)
        have hl2 : lookS r.1.hs ((k2 : Int) * r.1.P + p2) = some g := by rw [hrP]; show lookS r.1.hs ((k2 : Int) * 4 + p2) = _; rw [hlk, if_neg hne]; exact h5
        obtain ⟨d1, d2, d3, d4, d5, d6, d7, d8⟩ := drop_spec R.cont (k := k2) (p := p2) (by omega) (by omega) hl2
        rw [hrP, ← show old = (k2 : Int) * ((4 : Nat) : Int) + p2 from h3] at d1 d2 d3 d4 d5 d6 d7 d8
        refine ⟨d1, d2, d3 Q.live, Q.calm, ⟨d4.trans hrB, d5, d6.trans (R.Z.trans hZ)⟩, hopsr, R.mis.trans hmis, hmk, hwr, Or.inr ⟨k, p, h, hkB, hpP, hnum, d7.trans Q.op, ?_, ?_⟩, by rw [d7]; exact hevn⟩
        · rw [d8, if_neg (fun e => hne (h3.symm.trans e.symm)), hlk, if_pos rfl]
        · intro j q hj hq hjq
          rw [d8]
          split
          · rfl
          · next e0 =>
            rw [hlk, if_neg (fun e => by obtain ⟨a, b⟩ := key_inj (P := 4) hq hpP e; omega)]
            by_cases e1 : j = k2 ∧ q = p2
            · obtain ⟨rfl, rfl⟩ := e1
              exact absurd h3.symm e0
            · exact h6 j q hj hq (by omega)
end Go.Proofs.YtoelopghilbfeaaGreat
namespace Go.Proofs.YtoelopghilbfeaaGreat
open Go.RowKit
set_option linter.unusedSimpArgs false
set_option linter.unusedVariables false

variable {s s' : SM} {c c' : CM}
theorem new_at {B P Z : Nat} {marks : List Int} {ms : List Mi} {k : Nat} {x : CB} (h : (CM.new B P Z marks ms).blocks[k]? = some x) : k < B ∧ x = CB.new P Z (marks.contains (k : Int)) := by
  have hk : k < B := by have := (List.getElem?_eq_some_iff.1 h).1; simpa [CM.new] using this
  refine ⟨hk, ?_⟩
  have h2 : (CM.new B P Z marks ms).blocks[k]? = some (CB.new P Z (marks.contains (k : Int))) := by
    show ((List.range B).map fun k : Nat => CB.new P Z (marks.contains (k : Int)))[k]? = _
    rw [List.getElem?_map, List.getElem?_range hk]
    rfl
  rw [h2] at h
  injection h with h
  exact h.symm
theorem new_shape {B P Z : Nat} {marks : List Int} {ms : List Mi} (k : Nat) (x : CB) (h : (CM.new B P Z marks ms).blocks[k]? = some x) : x.shape P Z := by
  obtain ⟨_, rfl⟩ := new_at h
  refine ⟨?_, Int.le_refl _, by show (0 : Int) ≤ P; omega, fun p _ hp => blankB_at hp⟩
  show (blankB P Z).length = P
  unfold blankB
  rw [List.length_replicate]
theorem lookI_chip {k : Int} (h1 : c.nextOf k = 0) : (lookI s c k).2 = (c, 0) := by
  have hA : lookA s c k = (s, c, 0) := by unfold lookA; rw [if_neg (by omega)]
  unfold lookI
  rw [hA, if_neg (by simp)]
  unfold lookB
  split <;> rfl
theorem lookAll_chip (h : ∀ k : Nat, c.nextOf k = 0) (n : Nat) : ∀ (k : Nat) (s : SM), (lookAll n k s c).2 = (c, 0) := by
  induction n with
  | zero => intro k s; rfl
  | succ n ih =>
    intro k s
    have e := lookI_chip (s := s) (h k)
    rw [lookAll, show (lookI s c k).2.2 = 0 by rw [e], if_neg (by simp), show (lookI s c k).2.1 = c by rw [e]]
    exact ih (k + 1) _
/-- a new store over a new chip -/
theorem new_start (marks : List Int) (ms : List Mi) (hpl : planB ((CM.new 16 4 128 marks ms).blocks.length : Int) (CM.new 16 4 128 marks ms).P (CM.new 16 4 128 marks ms).Z = true) :
    (newS (CM.new 16 4 128 marks ms)).2 = (CM.new 16 4 128 marks ms, 0) ∧ Cont (newS (CM.new 16 4 128 marks ms)).1 (CM.new 16 4 128 marks ms) ∧ Live (newS (CM.new 16 4 128 marks ms)).1 (CM.new 16 4 128 marks ms) ∧ (newS (CM.new 16 4 128 marks ms)).1.op = -1 ∧
      ((newS (CM.new 16 4 128 marks ms)).1.B = 16 ∧ (newS (CM.new 16 4 128 marks ms)).1.P = 4 ∧ (newS (CM.new 16 4 128 marks ms)).1.Z = 128) ∧ ∀ j q : Nat, j < 16 → q < 4 → lookS (newS (CM.new 16 4 128 marks ms)).1.hs ((j : Int) * 4 + q) = none := by
  have hch : (newS (CM.new 16 4 128 marks ms)).2 = (CM.new 16 4 128 marks ms, 0) := lookAll_chip (fun k => new_next 16 4 128 marks ms k) _ _ _
  have hlen : (CM.new 16 4 128 marks ms).blocks.length = 16 := by simp [CM.new]
  obtain ⟨a1, a2⟩ := newS_spec (c := CM.new 16 4 128 marks ms) hpl rfl (fun k x h => new_shape k x h)
  have hv : ∀ j q : Nat, j < 16 → q < 4 → (CM.new 16 4 128 marks ms).vAt j q = none := by
    intro j q hj hq
    cases hb : (CM.new 16 4 128 marks ms).blocks[j]? with
    | none => exact vAt_none hb q
    | some x =>
      rw [vAt_of hb]
      obtain ⟨_, rfl⟩ := new_at hb
      exact pgV_rep 4 156 255 _ rfl (by omega) q
  generalize newS (CM.new 16 4 128 marks ms) = r at *
  obtain ⟨r1, r2⟩ := r
  dsimp only at hch
  subst hch
  dsimp only at a2
  rcases a2 with ⟨h4, _⟩ | ⟨_, b1, b2, b3, b4, b5, b6, b7⟩
  · exact absurd h4 (by decide)
  · refine ⟨rfl, b1, b2, b3, ⟨b4.trans hlen, b5, b6⟩, fun j q hj hq => ?_⟩
    have := b7 j q (by rw [hlen]; exact hj) hq
    rw [hv j q hj hq] at this
    exact this
set_option maxRecDepth 20000 in
theorem aw_plan' : planB ((CM.new 16 4 128 [] []).blocks.length : Int) (CM.new 16 4 128 [] []).P (CM.new 16 4 128 [] []).Z = true := by kernel_rfl
theorem awS_ok : Cont awS awC ∧ Live awS awC ∧ ∀ j q : Nat, j < 16 → q < 4 → lookS awS.hs ((j : Int) * 4 + q) = none := by
  obtain ⟨_, h2, h3, _, _, h6⟩ := new_start [] [] aw_plan'
  have e : (newS (CM.new 16 4 128 [] [])).1 = awS := by have := awN; show (newS awC).1 = awS; rw [this]
  rw [e] at h2 h3 h6
  exact ⟨h2, h3, h6⟩
theorem awC_at {k : Nat} {x : CB} (h : awC.blocks[k]? = some x) : x = CB.new 4 128 false := by
  obtain ⟨_, h2⟩ := new_at (marks := []) (ms := []) h
  exact h2
theorem awC_calm {N : Int} : Calm awC N := ⟨fun m h => absurd h (by simp [awC, CM.new]), fun k x h => by rw [awC_at h]; rfl⟩
theorem awC_wear (k : Nat) : awC.wearOf k = 0 := by
  unfold CM.wearOf
  rw [blk_at]
  cases h : awC.blocks[k]? with
  | none => rfl
  | some x => rw [awC_at h]; rfl
theorem spr_start : SprI 0 (-1) awS awC := by
  obtain ⟨h1, h2, h3⟩ := awS_ok
  refine ⟨h1, h2, awC_calm, ⟨rfl, rfl, rfl⟩, Int.le_refl _, rfl, fun j x h => by rw [awC_at h]; rfl, fun j _ => ?_, Or.inl ⟨rfl, rfl, h3⟩, ⟨0, Int.le_refl _, ?_, ?_, ?_, ?_⟩⟩
  · rw [awC_wear]; exact ⟨Int.le_refl _, Int.le_refl _⟩
  · intro j _; show 0 ≤ awC.wearOf (j : Nat) ∧ awC.wearOf (j : Nat) ≤ 0 + 2; rw [awC_wear]; omega
  · intro j _ _; show awC.wearOf (j : Nat) ≤ 0 + 1; rw [awC_wear]; omega
  · intro j _ h; have h' : awC.wearOf (j : Nat) = 0 + 2 := h; rw [awC_wear] at h'; omega
  · intro j _ _; exact awC_wear j
end Go.Proofs.YtoelopghilbfeaaGreat
namespace Go.Proofs.YtoelopghilbfeaaGreat
open Go.RowKit
set_option linter.unusedSimpArgs false
set_option linter.unusedVariables false

variable {s s' : SM} {c c' : CM}
def hdK (κ : Int) (i : Nat) : Hd := ⟨κ, i, 1 + i, 0⟩
theorem fillL_len (n : Int) : (fillL n 128).length = 128 := by unfold fillL; simp
theorem hdK_may {κ : Int} {i : Nat} (hκ : κ = 1 ∨ κ = 2) (hi : i ≤ 1000) : (hdK κ i).may = true ∧ HdIn (hdK κ i) := by
  refine ⟨?_, by show (0 : Int) ≤ i; omega, by show (i : Int) < 18446744073709551616; omega⟩
  unfold Hd.may hdK
  simp
  omega
theorem getS_sim (s : SM) (c : CM) (n : Int) : c.Sim (getS s c n).1 1 := by
  unfold getS
  split
  · exact (CM.Sim.refl c).mono (by omega)
  · split
    · exact CM.read_sim _ _ _
    · split
      · exact CM.read_sim _ _ _
      · exact CM.read_sim _ _ _
/-- pages L (number, what was put) are there -/
structure HasI (κ : Int) (L : List (Nat × Nat)) (s : SM) (c : CM) : Prop where
  cont : Cont s c
  geo : s.B = 16 ∧ s.P = 4 ∧ s.Z = 128
  has : ∀ n i, (n, i) ∈ L → n < 64 ∧ lookS s.hs (n : Int) = some (hdK κ i) ∧ c.vAt (n / 4) (n % 4) = some (fillL i 128, hdK κ i)
/-- and these alone are needed; blocks but the open one are full, or have none -/
structure LawI (N κ : Int) (mk : Nat → Bool) (M : Int) (L : List (Nat × Nat)) (s : SM) (c : CM) : Prop where
  has : HasI κ L s c
  live : Live s c
  calm : Calm c N
  mis : c.misuse = 0
  only : ∀ n : Nat, n < 64 → lookS s.hs (n : Int) ≠ none → ∃ i, (n, i) ∈ L
  nodup : (L.map (·.1)).Nodup
  shut : ∀ (j : Nat) (x : CB), c.blocks[j]? = some x → s.op ≠ (j : Int) → x.next = 0 ∨ x.next = 4
  mark : ∀ (j : Nat) (x : CB), c.blocks[j]? = some x → x.mark = mk j
  ops : 0 ≤ c.ops ∧ c.ops ≤ M
  msk : ∀ m ∈ c.ms, m.kind ≠ 2
def FullS (mk : Nat → Bool) (s : SM) (c : CM) : Prop := ∀ j : Nat, j < 16 → mk j = false → c.nextOf j = 4 ∧ ∃ q : Nat, q < 4 ∧ lookS s.hs ((j * 4 + q : Nat) : Int) ≠ none
theorem nat_key (k p : Nat) : ((k * 4 + p : Nat) : Int) = (k : Int) * ((4 : Nat) : Int) + p := by simp
theorem nat_split (n : Nat) : n / 4 * 4 + n % 4 = n := by omega
theorem LawI.put {N κ : Int} {mk : Nat → Bool} {M : Int} {L : List (Nat × Nat)} (I : LawI N κ mk M L s c) (hN : M + 2 ≤ N) {i : Nat} (hi : i ≤ 1000) (hκ : κ = 1 ∨ κ = 2) :
    (putA s c (hdK κ i) (fillL i 128) = (s, c, 0, 7) ∧ FullS mk s c) ∨
    ∃ p : Nat, (putA s c (hdK κ i) (fillL i 128)).2.2 = ((p : Int), 0) ∧ p < 64 ∧ lookS s.hs (p : Int) = none ∧ mk (p / 4) = false ∧ LawI N κ mk (M + 2) ((p, i) :: L) (putA s c (hdK κ i) (fillL i 128)).1 (putA s c (hdK κ i) (fillL i 128)).2.1 ∧
      (∀ j : Nat, j ≠ p / 4 → (putA s c (hdK κ i) (fillL i 128)).2.1.nextOf j = c.nextOf j) ∧ (putA s c (hdK κ i) (fillL i 128)).2.1.nextOf (p / 4 : Nat) ≤ c.nextOf (p / 4 : Nat) + 1 ∧
      ((∀ j : Nat, j < 16 → 0 < c.nextOf j → ¬ noneed s j) → (putA s c (hdK κ i) (fillL i 128)).2.1.ops = c.ops + 1 ∧ ∀ j : Nat, j < 16 → 0 < (putA s c (hdK κ i) (fillL i 128)).2.1.nextOf j → ¬ noneed (putA s c (hdK κ i) (fillL i 128)).1 j) := by
  obtain ⟨⟨hC, ⟨hB, hP, hZ⟩, hhas⟩, hL, hK, hmis, honly, hnd, hshut, hmark, hops, hmsk⟩ := I
  obtain ⟨hm, hin⟩ := hdK_may hκ hi
  have hop := hC.opb
  obtain ⟨R, hcase⟩ := put_calm hC hL hK (by omega) hm hin (d := fillL i 128) (by rw [hZ]; exact fillL_len _)
  rcases hcase with ⟨e, h0, hE⟩ | ⟨k, p, x, x', Q⟩
  · refine Or.inl ⟨e, fun j hj hmj => ?_⟩
    obtain ⟨x, hx⟩ := hC.bget (k := j) (by omega)
    have hxm : x.mark = false := (hmark j x hx).trans hmj
    have hnn : ¬ noneed s j := by
      intro hn
      have : (j : Int) ∈ emptyL s c := (emptyL_mem hC).2 ⟨j, rfl, by omega, (countB_iff hC hx).2 ⟨hxm, hn, Or.inr h0⟩⟩
      rw [hE] at this
      exact absurd this (by simp)
    have hq : ∃ q : Nat, q < 4 ∧ lookS s.hs ((j * 4 + q : Nat) : Int) ≠ none := by
      refine Classical.byContradiction fun hne => hnn fun q hq => ?_
      rw [hP] at hq ⊢
      refine Classical.byContradiction fun h2 => hne ⟨q, hq, ?_⟩
      rw [nat_key]
      exact h2
    refine ⟨?_, hq⟩
    rw [next_at hx]
    obtain ⟨q, hq1, hq2⟩ := hq
    by_cases ho : s.op = (j : Int)
    · rw [left_at hC ho hx, hP] at h0
      omega
    · rcases hshut j x hx ho with h | h
      · have := (hC.above hx (p := q) (by rw [hP]; exact hq1) (by omega)).1
        rw [hP, ← nat_key] at this
        exact absurd this hq2
      · exact h
  · refine Or.inr ⟨k * 4 + p, ?_⟩
    generalize putA s c (hdK κ i) (fillL i 128) = r at R Q
    have hkB : k < 16 := by rw [← hB]; exact Q.kb
    have hpP : p < 4 := by rw [← hP]; exact Q.pb
    have hi0 := (List.getElem?_eq_some_iff.1 Q.blk).1
    have e1 : (k * 4 + p) / 4 = k := by omega
    have e2 : (k * 4 + p) % 4 = p := by omega
    have hfree : lookS s.hs ((k * 4 + p : Nat) : Int) = none := by have f := Q.free; rw [hP, ← nat_key] at f; exact f
    have hlk : ∀ m, lookS r.1.hs m = if m = ((k * 4 + p : Nat) : Int) then some (hdK κ i) else lookS s.hs m := by
      intro m
      have e := Q.hs
      rw [hP, ← nat_key] at e
      rw [e]
      exact lookS_put _ m hfree
    have hxk' : r.2.1.blocks[k]? = some x' := by rw [Q.blks, set_at _ _ _ _ hi0, if_pos rfl]
    have hxj : ∀ j : Nat, j ≠ k → r.2.1.blocks[j]? = c.blocks[j]? := by intro j hj; rw [Q.blks, set_at _ _ _ _ hi0, if_neg (Ne.symm hj)]
    have hnj : ∀ j : Nat, j ≠ k → r.2.1.nextOf j = c.nextOf j := by intro j hj; unfold CM.nextOf; rw [blk_at, blk_at, hxj j hj]
    have hnk := next_at hxk'
    have hnk0 := next_at Q.blk
    have hnx := Q.next
    have hshx := (hC.shape k x Q.blk).2.1
    rw [e1]
    refine ⟨by rw [Q.code, hP, ← nat_key], by omega, hfree, ?_, ⟨⟨R.cont, ⟨R.B.trans hB, R.P.trans hP, R.Z.trans hZ⟩, ?_⟩, Q.live, Q.calm, R.mis.trans hmis, ?_, ?_, ?_, ?_, ?_, by rw [R.ms]; exact hmsk⟩, hnj, ?_, ?_⟩
    · rw [← hmark k x Q.blk]; exact Q.mark.1
    · intro n a ha
      rcases List.mem_cons.1 ha with h | h
      · injection h with h1 h2
        subst h1 h2
        refine ⟨by omega, by rw [hlk, if_pos rfl], ?_⟩
        rw [e1, e2]
        exact Q.val
      · obtain ⟨h1, h2, h3⟩ := hhas n a h
        have hne : n ≠ k * 4 + p := by intro e; rw [e, hfree] at h2; exact absurd h2 (by simp)
        refine ⟨h1, by rw [hlk, if_neg (by omega)]; exact h2, ?_⟩
        have hl2 : lookS s.hs ((n / 4 : Nat) * (s.P : Int) + (n % 4 : Nat)) = some (hdK κ a) := by
          rw [hP, ← nat_key, nat_split]
          exact h2
        rw [R.keep (n / 4) (n % 4) _ (by omega) (by omega) hl2]
        exact h3
    · intro n hn hne
      rw [hlk] at hne
      by_cases e : (n : Int) = ((k * 4 + p : Nat) : Int)
      · exact ⟨i, by have : n = k * 4 + p := by omega
                     rw [this]; exact List.mem_cons_self⟩
      · rw [if_neg e] at hne
        obtain ⟨a, ha⟩ := honly n hn hne
        exact ⟨a, List.mem_cons_of_mem _ ha⟩
    · rw [List.map_cons, List.nodup_cons]
      refine ⟨fun hmem => ?_, hnd⟩
      obtain ⟨⟨n, a⟩, h1, h2⟩ := List.mem_map.1 hmem
      have h2' : n = k * 4 + p := h2
      obtain ⟨_, h3, _⟩ := hhas n a h1
      rw [h2', hfree] at h3
      exact absurd h3 (by simp)
    · intro j xj hj hne
      rw [Q.op] at hne
      have hjk : j ≠ k := by omega
      rw [hxj j hjk] at hj
      by_cases ho : s.op = (j : Int)
      · rcases Q.way with ⟨_, h2, _⟩ | ⟨h1, _⟩
        · omega
        · rw [left_at hC ho hj, hP] at h1
          exact Or.inr (by omega)
      · exact hshut j xj hj ho
    · intro j xj hj
      by_cases e : j = k
      · subst e
        rw [hxk'] at hj
        injection hj with hj
        rw [← hj, ← hmark j x Q.blk, Q.mark.1, Q.mark.2]
      · rw [hxj j e] at hj
        exact hmark j xj hj
    · have := Q.ops
      omega
    · rw [hnk, hnk0]
      rcases Q.way with ⟨_, _, h3, _⟩ | ⟨_, h2, _⟩ <;> omega
    · intro hu
      constructor
      · rcases Q.way with ⟨_, _, _, _, h5⟩ | ⟨_, _, _, h4, _, h6⟩
        · exact h5
        · rw [h6, if_neg]
          intro hpos
          exact hu k hkB (by rw [hnk0]; exact hpos) h4
      · intro j hj hpos hn
        have hPr : r.1.P = 4 := R.P.trans hP
        by_cases e : j = k
        · subst e
          have := hn p (by rw [hPr]; exact hpP)
          rw [hPr, ← nat_key, hlk, if_pos rfl] at this
          exact absurd this (by simp)
        · rw [hnj j e] at hpos
          refine hu j hj hpos fun q hq => ?_
          have h1 := hn q (by rw [hPr, ← hP]; exact hq)
          rw [hP] at hq ⊢
          rw [hPr, ← nat_key, hlk] at h1
          rw [← nat_key]
          split at h1
          · exact absurd h1 (by simp)
          · exact h1
theorem LawI.drop {N κ : Int} {mk : Nat → Bool} {M : Int} {L : List (Nat × Nat)} (I : LawI N κ mk M L s c) {n i : Nat} (hn : (n, i) ∈ L) : (dropS s n).2 = 0 ∧ LawI N κ mk M (L.filter fun q => decide (q.1 ≠ n)) (dropS s n).1 c := by
  obtain ⟨⟨hC, ⟨hB, hP, hZ⟩, hhas⟩, hL, hK, hmis, honly, hnd, hshut, hmark, hops, hmsk⟩ := I
  obtain ⟨h1, h2, h3⟩ := hhas n i hn
  have hl2 : lookS s.hs ((n / 4 : Nat) * (s.P : Int) + (n % 4 : Nat)) = some (hdK κ i) := by
    rw [hP, ← nat_key, nat_split]
    exact h2
  obtain ⟨d1, d2, d3, d4, d5, d6, d7, d8⟩ := drop_spec hC (k := n / 4) (p := n % 4) (by omega) (by omega) hl2
  rw [hP, ← nat_key, nat_split] at d1 d2 d3 d4 d5 d6 d7 d8
  refine ⟨d1, ⟨⟨d2, ⟨d4.trans hB, d5, d6.trans hZ⟩, ?_⟩, d3 hL, hK, hmis, ?_, ?_, ?_, hmark, hops, hmsk⟩⟩
  · intro m a ha
    obtain ⟨ha1, ha2⟩ := List.mem_filter.1 ha
    obtain ⟨q1, q2, q3⟩ := hhas m a ha1
    have hne : m ≠ n := by simpa using ha2
    exact ⟨q1, by rw [d8, if_neg (by omega)]; exact q2, q3⟩
  · intro m hm hne
    rw [d8] at hne
    by_cases e : (m : Int) = n
    · rw [if_pos e] at hne; exact absurd rfl hne
    · rw [if_neg e] at hne
      obtain ⟨a, ha⟩ := honly m hm hne
      exact ⟨a, List.mem_filter.2 ⟨ha, by simp; omega⟩⟩
  · exact hnd.sublist (List.filter_sublist.map _)
  · rw [d7]; exact hshut
theorem HasI.get {κ : Int} {L : List (Nat × Nat)} (I : HasI κ L s c) (hon : c.on = true) (hms : ∀ m ∈ c.ms, m.kind ≠ 2) {n i : Nat} (hn : (n, i) ∈ L) :
    (getS s c n).2 = (fillL i 128, hdK κ i, 0) ∧ Reads c (getS s c n).1 ∧ (getS s c n).1.on = true := by
  obtain ⟨hC, ⟨hB, hP, hZ⟩, hhas⟩ := I
  obtain ⟨h1, h2, h3⟩ := hhas n i hn
  have hl2 : lookS s.hs ((n / 4 : Nat) * (s.P : Int) + (n % 4 : Nat)) = some (hdK κ i) := by
    rw [hP, ← nat_key, nat_split]
    exact h2
  obtain ⟨g1, g2⟩ := get_spec hC (k := n / 4) (p := n % 4) (by omega) (by omega) hl2 h3
  rw [hP, ← nat_key, nat_split] at g1 g2
  rcases g2 with ⟨q1, q2, q3⟩ | ⟨_, _, q3⟩
  · exact ⟨q1, g1, q3⟩
  · obtain ⟨_, m, m1, m2, _⟩ := q3 hon
    exact absurd m2 (hms m m1)
theorem HasI.getE {κ : Int} {L : List (Nat × Nat)} (I : HasI κ L s c) (hon : c.on = true) (hms : ∀ m ∈ c.ms, m.kind ≠ 2) {n i : Nat} (hn : (n, i) ∈ L) :
    ∃ c4, getS s c n = (c4, fillL i 128, hdK κ i, 0) ∧ Reads c c4 ∧ c4.on = true ∧ c4.ops ≤ c.ops + 1 := by
  obtain ⟨a1, a2, a3⟩ := I.get hon hms hn
  exact ⟨_, Prod.ext rfl a1, a2, a3, (getS_sim s c n).2.2.2.2.2⟩
theorem HasI.reads {κ : Int} {L : List (Nat × Nat)} (I : HasI κ L s c) (g : Reads c c') : HasI κ L s c' := ⟨I.cont.reads g, I.geo, fun n i h => by rw [g.vAt]; exact I.has n i h⟩
theorem HasI.lost {κ : Int} {L : List (Nat × Nat)} (I : HasI κ L s c) (hah : ahead c < 25) : Reads c (lostN 25 c).2 ∧ ∃ t, (lostN 25 c).1 = some t ∧ HasI κ L t (lostN 25 c).2 ∧ Live t (lostN 25 c).2 := by
  obtain ⟨hC, ⟨hB, hP, hZ⟩, hhas⟩ := I
  have e1 := hC.B
  have e2 := hC.P
  have e3 := hC.Z
  obtain ⟨r1, t, r2, r3, r4, r5, r6, r7, r8, r9⟩ := lostN_spec 25 c (by rw [e1, e2, e3]; exact hC.pl) (fun k x h => by rw [e2, e3]; exact hC.shape k x h) hah
  refine ⟨r1, t, r2, ⟨r3, ⟨by omega, by omega, by omega⟩, ?_⟩, r4⟩
  intro n i hn
  obtain ⟨h1, h2, h3⟩ := hhas n i hn
  have := r9 (n / 4) (n % 4) (by omega) (by omega)
  rw [e2, hP, ← nat_key, nat_split, h3] at this
  exact ⟨h1, this, by rw [r1.vAt]; exact h3⟩
theorem pigeon : ∀ (n : Nat) (L : List Nat), (∀ j, j < n → j ∈ L) → n ≤ L.length := by
  intro n
  induction n with
  | zero => intro L _; omega
  | succ n ih =>
    intro L h
    have hn := h n (by omega)
    have h1 := ih (L.erase n) fun j hj => (List.mem_erase_of_ne (by omega)).2 (h j (by omega))
    rw [List.length_erase_of_mem hn] at h1
    have := List.length_pos_of_mem hn
    omega
theorem LawI.few {N κ : Int} {mk : Nat → Bool} {M : Int} {L : List (Nat × Nat)} (I : LawI N κ mk M L s c) (hmk : ∀ j, mk j = false) (hl : L.length < 16) : ¬ FullS mk s c := by
  intro hf
  have := pigeon 16 (L.map fun q => q.1 / 4) fun j hj => by
    obtain ⟨_, q, hq, hne⟩ := hf j hj (hmk j)
    obtain ⟨i, hi⟩ := I.only (j * 4 + q) (by omega) hne
    exact List.mem_map.2 ⟨_, hi, by show (j * 4 + q) / 4 = j; omega⟩
  rw [List.length_map] at this
  omega
theorem lawI_start (κ : Int) {N : Int} : LawI N κ (fun _ => false) 0 [] awS awC := by
  obtain ⟨h1, h2, h3⟩ := awS_ok
  refine ⟨⟨h1, ⟨rfl, rfl, rfl⟩, fun n i h => absurd h (by simp)⟩, h2, awC_calm, rfl, ?_, by simp, ?_, ?_, ⟨Int.le_refl _, Int.le_refl _⟩, by simp [awC, CM.new]⟩
  · intro n hn hne
    have := h3 (n / 4) (n % 4) (by omega) (by omega)
    have e : ((n / 4 : Nat) : Int) * 4 + (n % 4 : Nat) = n := by omega
    rw [e] at this
    exact absurd this hne
  · intro j x hx _; rw [awC_at hx]; exact Or.inl rfl
  · intro j x hx; rw [awC_at hx]; rfl
end Go.Proofs.YtoelopghilbfeaaGreat
namespace Go.Proofs.YtoelopghilbfeaaGreat
open Go.RowKit
set_option linter.unusedSimpArgs false
set_option linter.unusedVariables false

variable {s s' : SM} {c c' : CM}
structure KeepI (n : Nat) (pg : List Nat) (o : Int) (s : SM) (c : CM) (L : List (Nat × Nat)) : Prop where
  law : LawI 1000000 1 (fun _ => false) (2 * n) L s c
  has : ∀ j (h : j < pg.length), (pg[j], j) ∈ L
  few : L.length ≤ pg.length + (if o < 0 then 0 else 1)
  neg : o < 0 → o = -1
  old : 0 ≤ o → ∃ on i : Nat, o = on ∧ (on, i) ∈ L ∧ ∀ q ∈ pg, q ≠ on
theorem filter_lt' {α : Type} (p : α → Bool) (l : List α) {a : α} (h : a ∈ l) (hp : p a = false) : (l.filter p).length + 1 ≤ l.length := by
  have := filter_lt p (fun _ => true) l (fun _ _ => rfl) h rfl hp
  rw [List.filter_eq_self.2 (fun _ _ => rfl)] at this
  omega
theorem KeepI.put {n : Nat} {pg : List Nat} {o : Int} {L : List (Nat × Nat)} (I : KeepI n pg o s c L) (hpg : pg.length ≤ 12) (hn : n ≤ 320) :
    ∃ p : Nat, (putA s c (hdK 1 n) (fillL n 128)).2.2 = ((p : Int), 0) ∧ p < 64 ∧
      (o < 0 → o = -1 ∧ ∃ L', KeepI (n + 1) pg p (putA s c (hdK 1 n) (fillL n 128)).1 (putA s c (hdK 1 n) (fillL n 128)).2.1 L' ∧ (pg.length = n → KeepI (n + 1) (pg ++ [p]) (-1) (putA s c (hdK 1 n) (fillL n 128)).1 (putA s c (hdK 1 n) (fillL n 128)).2.1 L')) ∧
      (0 ≤ o → (dropS (putA s c (hdK 1 n) (fillL n 128)).1 o).2 = 0 ∧ ∃ L', KeepI (n + 1) pg p (dropS (putA s c (hdK 1 n) (fillL n 128)).1 o).1 (putA s c (hdK 1 n) (fillL n 128)).2.1 L' ∧ (pg.length = n → KeepI (n + 1) (pg ++ [p]) (-1) (dropS (putA s c (hdK 1 n) (fillL n 128)).1 o).1 (putA s c (hdK 1 n) (fillL n 128)).2.1 L')) := by
  obtain ⟨hI, hhas, hfew, hneg, hold⟩ := I
  have hL16 : L.length < 16 := by split at hfew <;> omega
  rcases hI.put (by omega) (i := n) (by omega) (Or.inl rfl) with ⟨_, hf⟩ | ⟨p, e1, e2, e3, e4, e5, _⟩
  · exact absurd hf (hI.few (fun _ => rfl) hL16)
  · generalize putA s c (hdK 1 n) (fillL n 128) = r at *
    have e5' : LawI 1000000 1 (fun _ => false) (2 * ((n + 1 : Nat) : Int)) ((p, n) :: L) r.1 r.2.1 := by
      have e : 2 * ((n + 1 : Nat) : Int) = 2 * (n : Int) + 2 := by omega
      rw [e]; exact e5
    have hpq : ∀ q i, (q, i) ∈ L → q ≠ p := by
      intro q i h e
      have := (hI.has.has q i h).2.1
      rw [e, e3] at this
      exact absurd this (by simp)
    -- whatever list holds
    have fin : ∀ (t : SM) (L' : List (Nat × Nat)), LawI 1000000 1 (fun _ => false) (2 * ((n + 1 : Nat) : Int)) L' t r.2.1 → (∀ j (h : j < pg.length), (pg[j], j) ∈ L') → (p, n) ∈ L' → L'.length ≤ pg.length + 1 →
        KeepI (n + 1) pg p t r.2.1 L' ∧ (pg.length = n → KeepI (n + 1) (pg ++ [p]) (-1) t r.2.1 L') := by
      intro t L' h1 h2 h3 h4
      constructor
      · refine ⟨h1, h2, by rw [if_neg (by omega)]; exact h4, by omega, fun _ => ⟨p, n, rfl, h3, fun q hq => ?_⟩⟩
        obtain ⟨j, hj, rfl⟩ := List.mem_iff_getElem.1 hq
        exact hpq _ _ (hhas j hj)
      · intro hlen
        refine ⟨h1, ?_, by rw [if_pos (by omega), List.length_append]; simp; omega, fun _ => rfl, by omega⟩
        intro j hj
        rw [List.length_append] at hj
        by_cases e : j < pg.length
        · rw [List.getElem_append_left e]; exact h2 j e
        · have : j = pg.length := by simp at hj; omega
          subst this
          rw [List.getElem_append_right (Nat.le_refl _)]
          simp only [Nat.sub_self, List.getElem_cons_zero]
          rw [hlen]
          exact h3
    refine ⟨p, e1, e2, ?_, ?_⟩
    · intro ho
      refine ⟨hneg ho, _, fin r.1 _ e5' (fun j hj => List.mem_cons_of_mem _ (hhas j hj)) List.mem_cons_self ?_⟩
      rw [if_pos ho] at hfew
      rw [List.length_cons]
      omega
    · intro ho
      obtain ⟨on, i, rfl, h2, h3⟩ := hold ho
      rw [if_neg (by omega)] at hfew
      obtain ⟨d1, d2⟩ := e5'.drop (List.mem_cons_of_mem _ h2)
      refine ⟨d1, _, fin _ _ d2 ?_ ?_ ?_⟩
      · intro j hj
        exact List.mem_filter.2 ⟨List.mem_cons_of_mem _ (hhas j hj), by simpa using h3 _ (List.getElem_mem hj)⟩
      · exact List.mem_filter.2 ⟨List.mem_cons_self, by simpa using (hpq on i h2).symm⟩
      · have := filter_lt' (fun q : Nat × Nat => decide (q.1 ≠ on)) ((p, n) :: L) (List.mem_cons_of_mem _ h2) (by simp)
        rw [List.length_cons] at this
        omega
theorem keepI_start : KeepI 0 [] (-1) awS awC [] := ⟨lawI_start 1, fun j h => absurd h (by simp), by simp, fun _ => rfl, fun h => by omega⟩
theorem lostN_sim (n : Nat) : ∀ c : CM, c.ok → c.blocks.length ≤ 32 → c.Sim (lostN n c).2 (256 * n) ∧ (lostN n c).2.ok := by
  induction n with
  | zero => intro c h _; exact ⟨CM.Sim.refl c, h⟩
  | succ n ih =>
    intro c h hb
    have h1 : ({ c with on := true } : CM).ok := h
    obtain ⟨a1, a2, a3⟩ := newS_sim h1
    have a0 : c.Sim { c with on := true } 0 := ⟨rfl, rfl, rfl, rfl, Int.le_refl _, by show c.ops ≤ c.ops + 0; omega⟩
    have hb' : ({ c with on := true } : CM).blocks.length ≤ 32 := hb
    have a4 := (a0.trans a1).mono (m := 256) (by omega)
    rw [lostN]
    split
    · exact ⟨a4.mono (by omega), a3⟩
    · split
      · obtain ⟨b1, b2⟩ := ih (newS { c with on := true }).2.1 a3 (by rw [a1.2.2.1]; exact hb)
        exact ⟨(a4.trans b1).mono (by omega), b2⟩
      · exact ⟨a4.mono (by omega), a3⟩
end Go.Proofs.YtoelopghilbfeaaGreat
namespace Go.Proofs.YtoelopghilbfeaaGreat
open Go.RowKit
set_option linter.unusedSimpArgs false
set_option linter.unusedVariables false

variable {s s' : SM} {c c' : CM}
theorem lawI_new (κ : Int) (marks : List Int) (ms : List Mi) {N : Int} (hms : ∀ m ∈ ms, N < m.at_) (hk : ∀ m ∈ ms, m.kind ≠ 2) :
    (newS (CM.new 16 4 128 marks ms)).2 = (CM.new 16 4 128 marks ms, 0) ∧ LawI N κ (fun j => marks.contains (j : Int)) 0 [] (newS (CM.new 16 4 128 marks ms)).1 (CM.new 16 4 128 marks ms) := by
  have hpl : planB ((CM.new 16 4 128 marks ms).blocks.length : Int) (CM.new 16 4 128 marks ms).P (CM.new 16 4 128 marks ms).Z = true := by
    have e : (CM.new 16 4 128 marks ms).blocks.length = (CM.new 16 4 128 [] []).blocks.length := by simp [CM.new]
    rw [e]
    exact aw_plan'
  obtain ⟨h1, h2, h3, h4, ⟨h5, h6, h7⟩, h8⟩ := new_start marks ms hpl
  refine ⟨h1, ⟨⟨h2, ⟨h5, h6, h7⟩, fun n i h => absurd h (by simp)⟩, h3, ⟨hms, fun k x h => by obtain ⟨_, rfl⟩ := new_at h; rfl⟩, rfl, ?_, by simp, ?_, ?_, ⟨Int.le_refl _, Int.le_refl _⟩, hk⟩⟩
  · intro n hn hne
    have := h8 (n / 4) (n % 4) (by omega) (by omega)
    have e : ((n / 4 : Nat) : Int) * 4 + (n % 4 : Nat) = n := by omega
    rw [e] at this
    exact absurd this hne
  · intro j x hx _; obtain ⟨_, rfl⟩ := new_at hx; exact Or.inl rfl
  · intro j x hx; obtain ⟨_, rfl⟩ := new_at hx; rfl
/-- so many blocks below n are marked -/
def mkTo (mk : Nat → Bool) (n : Nat) : Nat := ((List.range n).filter mk).length
theorem mkTo_succ (mk : Nat → Bool) (n : Nat) : mkTo mk (n + 1) = if mk n then mkTo mk n + 1 else mkTo mk n := by
  unfold mkTo
  rw [filter_snoc]
  split
  · rw [List.length_append]; rfl
  · rfl
theorem mkTo_zero {mk : Nat → Bool} (h : ∀ j, mk j = false) (n : Nat) : mkTo mk n = 0 := by
  induction n with
  | zero => rfl
  | succ n ih => rw [mkTo_succ, h, if_neg (by simp), ih]
theorem badS_eq {mk : Nat → Bool} (h : ∀ j : Nat, j < s.B → c.markOf (j : Int) = mk j) : badS s c = (mkTo mk s.B : Int) := by
  unfold badS onlyI numsTo mkTo
  rw [List.filter_map, List.length_map]
  congr 2
  refine List.filter_congr fun j hj => ?_
  have := h j (List.mem_range.1 hj)
  show (!(!c.markOf (j : Int))) = mk j
  rw [Bool.not_not, this]
theorem LawI.markOf {N κ : Int} {mk : Nat → Bool} {M : Int} {L : List (Nat × Nat)} (I : LawI N κ mk M L s c) {j : Nat} (hj : j < 16) : c.markOf (j : Int) = mk j := by
  obtain ⟨x, hx⟩ := I.has.cont.bget (k := j) (by rw [I.has.geo.1]; exact hj)
  rw [mark_at hx]
  exact I.mark j x hx
end Go.Proofs.YtoelopghilbfeaaGreat
