/-
  A region that draws its order, and that stores in the midst of it: what reads is taken first, under a condition S on the world, which is asked only till number z is done. No program in sight.
-/
import Derived.Test.YtinfbpldgobmfaaOrd
import Derived.Test.YtinfbpldgobmfaaRows3
namespace Go.Proofs.Ytinfbpldgobmfaa
set_option linter.unusedSimpArgs false
open Go

section
variable {P : Program} {ops : Array Oper} {Q : Exit → Act → World → Prop} {md : Region.Mode} {S : World → Prop} {z : Nat}

def wpAnyY (P : Program) (md : Region.Mode) (ops : Array Oper) (Q : Exit → Act → World → Prop) (S : World → Prop) (z : Nat) : Nat → Array Bool → Act → World → Prop
  | 0, listed, a, w => Region.ready md ops listed = [] ∧ Q .normal a w
  | fuel + 1, listed, a, w =>
    (Region.ready md ops listed = [] → Q .normal a w) ∧
    ∀ i ∈ Region.ready md ops listed, wpOp P ops Q i (fun a' w' => ((listed.setIfInBounds i true).getD z false = false → S w') ∧ wpAnyY P md ops Q S z fuel (listed.setIfInBounds i true) a' w') a w

theorem wpAny_of_Y : ∀ (fuel : Nat) (listed : Array Bool) (a : Act) (w : World), wpAnyY P md ops Q S z fuel listed a w → wpAny P md ops Q fuel listed a w
  | 0, _, _, _, h => h
  | fuel + 1, _, _, _, h => ⟨h.1, fun i hi => wpOp_mono (fun a' w' h' => wpAny_of_Y fuel _ a' w' h'.2) (h.2 i hi)⟩

theorem getD_set_neF {l : Array Bool} {i j : Nat} (h : i ≠ j) : (l.setIfInBounds i true).getD j false = l.getD j false := by
  simp [Array.getD_eq_getD_getElem?, Array.getElem?_setIfInBounds, h]
theorem getD_set_true {l : Array Bool} {i j : Nat} (h : (l.setIfInBounds i true).getD j false = false) : l.getD j false = false := by
  by_cases hij : i = j
  · subst hij
    by_cases hs : i < l.size
    · simp [Array.getD, hs] at h
    · simp [Array.getD, hs]
  · rwa [getD_set_neF hij] at h
theorem getD_push {A : Array Bool} {x : Bool} {j : Nat} : (A.push x).getD j false = if j = A.size then x else A.getD j false := by
  rw [Array.getD_eq_getD_getElem?, Array.getD_eq_getD_getElem?, Array.getElem?_push]
  split <;> rfl

theorem wpAnyY_first {i : Nat} {oi : Oper} {v : Value} (S2 : World → Prop) (hi : ops[i]? = some oi) (hsel : ∀ (j : Nat) (o : Oper) cs b, ops[j]? = some o → o.op ≠ .select cs b)
    (hQ : ∀ c a w, Q (.panic c) (a.put oi.dst v) w → Q (.panic c) a w) (hiz : i ≠ z)
    (hS2 : ∀ (listed : Array Bool) (w : World), HeadInv md ops ops.size listed → listed.getD i false = false → (listed.getD z false = false → S w) → S2 w) :
    ∀ (fuel : Nat) (listed : Array Bool) (a : Act) (w : World), HeadInv md ops ops.size listed →
      (∀ j oj, ops[j]? = some oj → j ≠ i → listed.getD j true = false → (∀ e ∈ oj.after, Region.binds md e = true → e.on ≠ i) → oi.apart ops oj = true) →
      i ∈ Region.ready md ops listed → StillIf P ops S2 oi v a → (listed.getD z false = false → S w) →
      wpAnyY P md ops Q S z fuel (listed.setIfInBounds i true) (a.put oi.dst v) w → wpAnyY P md ops Q S z (fuel + 1) listed a w := by
  intro fuel
  induction fuel with
  | zero =>
    intro listed a w inv _ hr hy hS H
    have hun : listed.getD i false = false := getD_both (mem_ready.1 hr).1
    refine ⟨fun h => (by rw [h] at hr; cases hr), fun j hj => ?_⟩
    by_cases hji : j = i
    · subst hji; exact hy.wpOp hi (hS2 listed w inv hun hS) ⟨fun h => hS (getD_set_true h), H⟩
    · have := ready_mono hj hji
      rw [H.1] at this
      cases this
  | succ fuel ih =>
    intro listed a w inv hfree hr hy hS H
    have hun : listed.getD i false = false := getD_both (mem_ready.1 hr).1
    refine ⟨fun h => (by rw [h] at hr; cases hr), fun j hj => ?_⟩
    by_cases hji : j = i
    · subst hji; exact hy.wpOp hi (hS2 listed w inv hun hS) ⟨fun h => hS (getD_set_true h), H⟩
    · have h1 := H.2 j (ready_mono hj hji)
      obtain ⟨hjun, oj, hoj, hall⟩ := mem_ready.1 hj
      have hjs := (Array.getElem?_eq_some_iff.1 hoj).1
      have hnot : ∀ e ∈ oj.after, Region.binds md e = true → e.on ≠ i := fun e he hb heq => by
        have h1 := hall e he hb
        rw [heq, getD_both (mem_ready.1 hr).1] at h1
        cases h1
      have h2 := wpOp_still hoj (hfree j oj hoj hji hjun hnot) (fun cs b => hsel i oi cs b hi) (fun cs b => hsel j oj cs b hoj) hQ hy h1
      have hfree' : ∀ k ok, ops[k]? = some ok → k ≠ i → (listed.setIfInBounds j true).getD k true = false →
          (∀ e ∈ ok.after, Region.binds md e = true → e.on ≠ i) → oi.apart ops ok = true := fun k ok hk hki hun hno => by
        refine hfree k ok hk hki ?_ hno
        by_cases hjk : j = k
        · subst hjk; exact hjun
        · rw [getD_set_ne true hjk] at hun; exact hun
      have hz : ∀ w', (((listed.setIfInBounds i true).setIfInBounds j true).getD z false = false → S w') → ((listed.setIfInBounds j true).getD z false = false → S w') := by
        intro w' h h0
        refine h ?_
        rw [Array.setIfInBounds_comm _ _ (Ne.symm hji), getD_set_neF hiz]; exact h0
      refine wpOp_mono (fun a' w' h3 => ⟨hz w' h3.2.1, ih (listed.setIfInBounds j true) a' w' (inv.set hj (by omega)) hfree' (ready_mono hr (Ne.symm hji)) h3.1 (hz w' h3.2.1) ?_⟩) h2
      rw [Array.setIfInBounds_comm _ _ hji]
      exact h3.2.2

/-- which operations wait for number i, directly or not -/
def descB (md : Region.Mode) (ops : Array Oper) (i : Nat) : Nat → Array Bool
  | 0 => #[]
  | n + 1 => (descB md ops i n).push (n == i || match ops[n]? with
    | some o => o.after.any fun e => Region.binds md e && (descB md ops i n).getD e.on false
    | none => false)
theorem descB_size (md : Region.Mode) (ops : Array Oper) (i : Nat) : ∀ n, (descB md ops i n).size = n
  | 0 => rfl
  | n + 1 => by rw [descB, Array.size_push, descB_size md ops i n]
theorem descB_spec {i : Nat} {listed : Array Bool} (inv : HeadInv md ops ops.size listed) (hun : listed.getD i false = false) : ∀ n j, (descB md ops i n).getD j false = true → listed.getD j false = false
  | 0, j, h => by simp [descB, Array.getD] at h
  | n + 1, j, h => by
    have hsz := descB_size md ops i n
    rw [descB, getD_push, hsz] at h
    by_cases hjn : j = n
    · subst hjn
      rw [if_pos rfl] at h
      have h2 := h
      rcases Bool.or_eq_true _ _ |>.mp h2 with h3 | h3
      · rw [beq_iff_eq] at h3; rw [h3]; exact hun
      · cases ho : ops[j]? with
        | none => rw [ho] at h3; cases h3
        | some o =>
          rw [ho] at h3
          simp only [Array.any_eq_true'] at h3
          obtain ⟨e, he, h4⟩ := h3
          obtain ⟨h5, h6⟩ := Bool.and_eq_true _ _ |>.mp h4
          have h7 := descB_spec inv hun j e.on h6
          cases hl : listed.getD j false with
          | false => rfl
          | true =>
            have := inv.closed j o ho hl e he h5
            rw [h7] at this; cases this
    · rw [if_neg hjn] at h
      exact descB_spec inv hun n j h

def takeYB (md : Region.Mode) (ops : Array Oper) (z : Nat) (listed : Array Bool) (i : Nat) : Bool :=
  Region.noSelect ops && Region.free md ops listed i && (Region.ready md ops listed).contains i && (i != z) && closedB md ops ops.size listed

/-- a reading operation, under S: number z waits for it -/
theorem Y_takeD (i : Nat) (d : Option Nat) {oi : Oper} {v : Value} {fuel : Nat} {listed : Array Bool} {a : Act} {w : World} (hi : ops[i]? = some oi) (hdst : oi.dst = d) (hB : (takeYB md ops z listed i && (descB md ops i (z + 1)).getD z false) = true)
    (hQ : ∀ c a w, Q (.panic c) (a.put d v) w → Q (.panic c) a w) (hw : Region.wanted oi (yielded ops a.tmps) = true) (hS : S w) (hy : ∀ wx, S wx → (execOp a.eval oi).run P wx = .ok (.value v) wx)
    (h : wpAnyY P md ops Q S z fuel (listed.setIfInBounds i true) (a.put d v) w) : wpAnyY P md ops Q S z (fuel + 1) listed a w := by
  subst hdst
  unfold takeYB at hB
  simp only [Bool.and_eq_true, bne_iff_ne] at hB
  obtain ⟨⟨⟨⟨⟨h1, h2⟩, h3⟩, h4⟩, h5⟩, h6⟩ := hB
  exact wpAnyY_first S hi (Region.noSelect_spec h1) hQ h4 (fun l w2 inv hun hs => hs (descB_spec inv hun _ _ h6)) fuel listed a w (closedB_spec h5) (Region.free_spec hi h2) (by simpa using h3) (.inl ⟨hw, fun wx hx => by rw [hy wx hx]; exact ⟨rfl, rfl⟩⟩) (fun _ => hS) h
/-- an operation that needs nothing of the world -/
theorem Y_takeT (i : Nat) (d : Option Nat) {oi : Oper} {v : Value} {fuel : Nat} {listed : Array Bool} {a : Act} {w : World} (hi : ops[i]? = some oi) (hdst : oi.dst = d) (hB : takeYB md ops z listed i = true)
    (hQ : ∀ c a w, Q (.panic c) (a.put d v) w → Q (.panic c) a w) (hw : Region.wanted oi (yielded ops a.tmps) = true) (hS : S w) (hy : ∀ wx, (execOp a.eval oi).run P wx = .ok (.value v) wx)
    (h : wpAnyY P md ops Q S z fuel (listed.setIfInBounds i true) (a.put d v) w) : wpAnyY P md ops Q S z (fuel + 1) listed a w := by
  subst hdst
  unfold takeYB at hB
  simp only [Bool.and_eq_true, bne_iff_ne] at hB
  obtain ⟨⟨⟨⟨h1, h2⟩, h3⟩, h4⟩, h5⟩ := hB
  exact wpAnyY_first (fun _ => True) hi (Region.noSelect_spec h1) hQ h4 (fun _ _ _ _ _ => trivial) fuel listed a w (closedB_spec h5) (Region.free_spec hi h2) (by simpa using h3) (.inl ⟨hw, fun wx _ => by rw [hy wx]; exact ⟨rfl, rfl⟩⟩) (fun _ => hS) h
theorem Y_skipD (i : Nat) (d : Option Nat) {oi : Oper} {fuel : Nat} {listed : Array Bool} {a : Act} {w : World} (hi : ops[i]? = some oi) (hdst : oi.dst = d) (hB : takeYB md ops z listed i = true)
    (hQ : ∀ c a w, Q (.panic c) (a.put d undef) w → Q (.panic c) a w) (hw : Region.wanted oi (yielded ops a.tmps) = false) (hS : S w)
    (h : wpAnyY P md ops Q S z fuel (listed.setIfInBounds i true) (a.put d undef) w) : wpAnyY P md ops Q S z (fuel + 1) listed a w := by
  subst hdst
  unfold takeYB at hB
  simp only [Bool.and_eq_true, bne_iff_ne] at hB
  obtain ⟨⟨⟨⟨h1, h2⟩, h3⟩, h4⟩, h5⟩ := hB
  exact wpAnyY_first (fun _ => True) hi (Region.noSelect_spec h1) hQ h4 (fun _ _ _ _ _ => trivial) fuel listed a w (closedB_spec h5) (Region.free_spec hi h2) (by simpa using h3) (.inr ⟨hw, rfl⟩) (fun _ => hS) h

/-- number i comes up alone, ahead of z -/
theorem Y_mid (i : Nat) {o : Oper} {fuel : Nat} {listed : Array Bool} {a : Act} {w : World} (ho : ops[i]? = some o) (hr : Region.ready md ops listed = [i])
    (h : ∀ K : Act → World → Prop, (∀ a' w', S w' → (S w' → wpAnyY P md ops Q S z fuel (listed.setIfInBounds i true) a' w') → K a' w') → if Region.wanted o (yielded ops a.tmps) = true then Oper.wp P o a w K Q else K (a.put o.dst undef) w) :
    wpAnyY P md ops Q S z (fuel + 1) listed a w := by
  refine ⟨fun h0 => (by rw [hr] at h0; cases h0), fun j hj => ?_⟩
  rw [hr] at hj
  obtain rfl := List.mem_singleton.1 hj
  exact wpOp_step ho fun K' hK' => h K' fun a' w' h1 h2 => hK' a' w' ⟨fun _ => h1, h2 h1⟩
/-- number z itself, or what comes up alone behind it: S is not asked -/
theorem Y_late (i : Nat) {o : Oper} {fuel : Nat} {listed : Array Bool} {a : Act} {w : World} (ho : ops[i]? = some o) (hr : Region.ready md ops listed = [i]) (hz : (listed.setIfInBounds i true).getD z false = true)
    (h : ∀ K : Act → World → Prop, (∀ a' w', wpAnyY P md ops Q S z fuel (listed.setIfInBounds i true) a' w' → K a' w') → if Region.wanted o (yielded ops a.tmps) = true then Oper.wp P o a w K Q else K (a.put o.dst undef) w) :
    wpAnyY P md ops Q S z (fuel + 1) listed a w := by
  refine ⟨fun h0 => (by rw [hr] at h0; cases h0), fun j hj => ?_⟩
  rw [hr] at hj
  obtain rfl := List.mem_singleton.1 hj
  exact wpOp_step ho fun K' hK' => h K' fun a' w' h2 => hK' a' w' ⟨fun h => (by rw [hz] at h; cases h), h2⟩
/-- two come up together, ahead of z -/
theorem Y_two (i j : Nat) {oi oj : Oper} {fuel : Nat} {listed : Array Bool} {a : Act} {w : World} (hi : ops[i]? = some oi) (hj : ops[j]? = some oj) (hr : Region.ready md ops listed = [i, j])
    (h1 : ∀ K : Act → World → Prop, (∀ a' w', S w' → (S w' → wpAnyY P md ops Q S z fuel (listed.setIfInBounds i true) a' w') → K a' w') → if Region.wanted oi (yielded ops a.tmps) = true then Oper.wp P oi a w K Q else K (a.put oi.dst undef) w)
    (h2 : ∀ K : Act → World → Prop, (∀ a' w', S w' → (S w' → wpAnyY P md ops Q S z fuel (listed.setIfInBounds j true) a' w') → K a' w') → if Region.wanted oj (yielded ops a.tmps) = true then Oper.wp P oj a w K Q else K (a.put oj.dst undef) w) :
    wpAnyY P md ops Q S z (fuel + 1) listed a w := by
  refine ⟨fun h0 => (by rw [hr] at h0; cases h0), fun k hk => ?_⟩
  rw [hr] at hk
  rcases List.mem_cons.1 hk with rfl | hk
  · exact wpOp_step hi fun K' hK' => h1 K' fun a' w' h1 h2 => hK' a' w' ⟨fun _ => h1, h2 h1⟩
  · obtain rfl := List.mem_singleton.1 hk
    exact wpOp_step hj fun K' hK' => h2 K' fun a' w' h1 h2 => hK' a' w' ⟨fun _ => h1, h2 h1⟩
theorem Y_done {listed : Array Bool} {a : Act} {w : World} (hr : Region.ready md ops listed = []) (h : Q .normal a w) : ∀ fuel, wpAnyY P md ops Q S z fuel listed a w
  | 0 => ⟨hr, h⟩
  | _ + 1 => ⟨fun _ => h, by rw [hr]; simp⟩
theorem Y_begin {id : Nat} {a : Act} {w : World} (S : World → Prop) (z : Nat) {l : List Oper} (hm : P.follows .mixedOrders = true)
    (hS : ∀ w1, (∃ k, w1 = w.drewN k) → S w1) (h : ∀ w1, (∃ k, w1 = w.drewN k) → S w1 → wpAnyY P .any l.toArray Q S z l.length (Array.replicate l.length false) a w1) : (Code.region id l.toArray true).wp P Q a w :=
  wp_region_any hm (by have := wpAny_of_Y _ _ _ _ (h w.drew ⟨1, rfl⟩ (hS _ ⟨1, rfl⟩)); simpa using this)
theorem Z_skipD (i : Nat) (d : Option Nat) {oi : Oper} {fuel : Nat} {listed : Array Bool} {a : Act} {w : World} (hi : ops[i]? = some oi) (hdst : oi.dst = d) (hB : takeB md ops z listed i = true)
    (hQ : ∀ c a w, Q (.panic c) (a.put d undef) w → Q (.panic c) a w) (hw : Region.wanted oi (yielded ops a.tmps) = false) (hS : S w)
    (h : wpAnyZ P md ops Q S z fuel (listed.setIfInBounds i true) (a.put d undef) w) : wpAnyZ P md ops Q S z (fuel + 1) listed a w := by
  subst hdst
  exact Z_skip i hi hB hQ hw hS h
end
end Go.Proofs.Ytinfbpldgobmfaa
