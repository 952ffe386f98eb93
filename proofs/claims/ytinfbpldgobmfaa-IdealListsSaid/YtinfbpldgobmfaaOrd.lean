/-
  A region that draws its order: what only reads is taken first, under a condition S on the world; the rest comes up one by one. Behind the last operation (number z), for which all others wait, S is not asked. No program in sight.
-/
import Derived.OrdersHeld
import Derived.StillTail
import Derived.RegionTactic
import Derived.Deep.Draws
namespace Go.Proofs.Ytinfbpldgobmfaa
open Go

section
variable {P : Program} {ops : Array Oper} {Q : Exit → Act → World → Prop} {md : Region.Mode} {S : World → Prop} {z : Nat}

/-- in the world w the operation yields v and leaves w as it is; or it is a call that does so -/
def StillUpon (P : Program) (w : World) (v : Value) : Result Next → Prop
  | .ok (.value u) w' => w' = w ∧ u = v
  | .ok (.enter f args) w' => w' = w ∧ Calls P f args w fun e w'' => e = .returned v ∧ w = w''
  | _ => False
/-- in every world that meets S -/
def StillIf (P : Program) (ops : Array Oper) (S : World → Prop) (o : Oper) (v : Value) (a : Act) : Prop :=
  (Region.wanted o (yielded ops a.tmps) = true ∧ ∀ w, S w → StillUpon P w v ((execOp a.eval o).run P w)) ∨
  (Region.wanted o (yielded ops a.tmps) = false ∧ v = undef)
theorem StillIf.wpOp {i : Nat} {o : Oper} {v : Value} {a : Act} (hi : ops[i]? = some o) (hy : StillIf P ops S o v a) {K : Act → World → Prop} {w : World} (hS : S w) (h : K (a.put o.dst v) w) : wpOp P ops Q i K a w := by
  unfold Go.wpOp
  simp only [hi]
  rcases hy with ⟨hw, hv⟩ | ⟨hw, rfl⟩
  · rw [if_pos hw]
    refine .inl ?_
    have h1 := hv w hS
    unfold Oper.wp
    generalize (execOp a.eval o).run P w = r at h1
    cases r with
    | halt x w' => exact h1.elim
    | ok n w' =>
      cases n with
      | value u =>
        obtain ⟨rfl, rfl⟩ := h1
        exact h
      | enter f args =>
        obtain ⟨rfl, hc⟩ := h1
        refine hc.mono fun e w'' he => ?_
        obtain ⟨rfl, rfl⟩ := he
        exact h
      | _ => exact h1.elim
  · rw [hw]
    simpa using h
theorem StillIf.same {o : Oper} {v : Value} {a a' : Act} (hy : StillIf P ops S o v a) (he : execOp a'.eval o = execOp a.eval o) (hw : Region.wanted o (yielded ops a'.tmps) = Region.wanted o (yielded ops a.tmps)) : StillIf P ops S o v a' := by
  unfold StillIf at *
  rw [he, hw]
  exact hy
/-- another operation, apart from it, may come before or behind it -/
theorem wpOp_still {j : Nat} {oi oj : Oper} {v : Value} (hj : ops[j]? = some oj) (hap : oi.apart ops oj = true) (hsi : ∀ cs b, oi.op ≠ .select cs b) (hsj : ∀ cs b, oj.op ≠ .select cs b)
    (hQ : ∀ c a w, Q (.panic c) (a.put oi.dst v) w → Q (.panic c) a w) {K : Act → World → Prop} {a : Act} {w : World} (hy : StillIf P ops S oi v a) (h : wpOp P ops Q j K (a.put oi.dst v) w) :
    wpOp P ops Q j (fun a' w' => StillIf P ops S oi v a' ∧ K (a'.put oi.dst v) w') a w := by
  obtain ⟨h1, h2, h3⟩ := Oper.apart_spec hap
  have next : ∀ (a : Act), StillIf P ops S oi v a → ∀ u w', K ((a.put oi.dst v).put oj.dst u) w' → StillIf P ops S oi v (a.put oj.dst u) ∧ K ((a.put oj.dst u).put oi.dst v) w' := fun a hy u w' hk =>
    ⟨hy.same (execOp_put oi hsi a oj.dst u h3) (wanted_put oi a oj.dst u h3), by rw [← Act.put_comm a v u h2]; exact hk⟩
  unfold wpOp at *
  simp only [hj] at *
  rw [wanted_put oj a oi.dst v h1] at h
  by_cases hw : Region.wanted oj (yielded ops a.tmps) = true
  · rw [if_pos hw] at h ⊢
    rcases h with h | ⟨h, hl⟩
    · refine .inl ?_
      unfold Oper.wp at *
      rw [execOp_put oj hsj a oi.dst v h1] at h
      generalize (execOp a.eval oj).run P w = r at *
      cases r with
      | halt x w' =>
        cases x
        case panic u => exact hQ _ _ _ h
        all_goals exact h
      | ok n w' =>
        cases n
        case value u => exact next a hy u w' h
        case skip => exact next a hy undef w' h
        case defer d => exact next { a with defers := d :: a.defers } (hy.same rfl rfl) undef w' (by rw [← Act.put_defers]; exact h)
        case enter f args =>
          refine Calls.mono h fun e w'' he => ?_
          cases e
          case returned u => exact next a hy u w'' he
          case panicked c => exact hQ _ _ _ he
          case outgrown => exact he
        case row rw' args => exact Rows.mono h fun u w'' he => next a hy u w'' he
        all_goals exact h
    · exact .inr ⟨by unfold Oper.asks at *; rw [execOp_put oj hsj a oi.dst v h1] at h; exact h, hl⟩
  · rw [if_neg hw] at h ⊢
    exact next a hy undef w h

def wpAnyZ (P : Program) (md : Region.Mode) (ops : Array Oper) (Q : Exit → Act → World → Prop) (S : World → Prop) (z : Nat) : Nat → Array Bool → Act → World → Prop
  | 0, listed, a, w => Region.ready md ops listed = [] ∧ Q .normal a w
  | fuel + 1, listed, a, w =>
    (Region.ready md ops listed = [] → Q .normal a w) ∧
    ∀ i ∈ Region.ready md ops listed, wpOp P ops Q i (fun a' w' => (i ≠ z → S w') ∧ wpAnyZ P md ops Q S z fuel (listed.setIfInBounds i true) a' w') a w

theorem wpAny_of_Z : ∀ (fuel : Nat) (listed : Array Bool) (a : Act) (w : World), wpAnyZ P md ops Q S z fuel listed a w → wpAny P md ops Q fuel listed a w
  | 0, _, _, _, h => h
  | fuel + 1, _, _, _, h => ⟨h.1, fun i hi => wpOp_mono (fun a' w' h' => wpAny_of_Z fuel _ a' w' h'.2) (h.2 i hi)⟩

/-- z comes last, or there is no such operation -/
def LastInv (md : Region.Mode) (ops : Array Oper) (z : Nat) (listed : Array Bool) : Prop :=
  ops.size ≤ z ∨ (Region.sinkB md ops z = true ∧ Region.chainB md ops z = true ∧ z < ops.size ∧ HeadInv md ops z listed ∧ ops.size ≤ z + 1)
theorem LastInv.not_ready {listed : Array Bool} {i : Nat} (h : LastInv md ops z listed) (hi : listed.getD i true = false) (his : i < ops.size) (hiz : i ≠ z) : z ∉ Region.ready md ops listed := by
  intro hz
  obtain ⟨_, o, ho, _⟩ := mem_ready.1 hz
  have hzs := (Array.getElem?_eq_some_iff.1 ho).1
  rcases h with h | ⟨h1, h2, h3, h4, h5⟩
  · omega
  · exact tail_waits h1 h2 h3 h4 _ i rfl (by omega) hi z (Nat.le_refl _) hz
theorem LastInv.set {listed : Array Bool} {j : Nat} (h : LastInv md ops z listed) (hj : j ∈ Region.ready md ops listed) (hjz : j ≠ z) : LastInv md ops z (listed.setIfInBounds j true) := by
  rcases h with h | ⟨h1, h2, h3, h4, h5⟩
  · exact .inl h
  · obtain ⟨_, o, ho, _⟩ := mem_ready.1 hj
    have hjs := (Array.getElem?_eq_some_iff.1 ho).1
    exact .inr ⟨h1, h2, h3, h4.set hj (by omega), h5⟩

theorem wpAnyZ_first {i : Nat} {oi : Oper} {v : Value} (hi : ops[i]? = some oi) (hsel : ∀ (j : Nat) (o : Oper) cs b, ops[j]? = some o → o.op ≠ .select cs b)
    (hQ : ∀ c a w, Q (.panic c) (a.put oi.dst v) w → Q (.panic c) a w) (hiz : i ≠ z) :
    ∀ (fuel : Nat) (listed : Array Bool) (a : Act) (w : World), LastInv md ops z listed →
      (∀ j oj, ops[j]? = some oj → j ≠ i → listed.getD j true = false → (∀ e ∈ oj.after, Region.binds md e = true → e.on ≠ i) → oi.apart ops oj = true) →
      i ∈ Region.ready md ops listed → StillIf P ops S oi v a → S w →
      wpAnyZ P md ops Q S z fuel (listed.setIfInBounds i true) (a.put oi.dst v) w → wpAnyZ P md ops Q S z (fuel + 1) listed a w := by
  intro fuel
  induction fuel with
  | zero =>
    intro listed a w _ _ hr hy hS H
    refine ⟨fun h => (by rw [h] at hr; cases hr), fun j hj => ?_⟩
    by_cases hji : j = i
    · subst hji; exact hy.wpOp hi hS ⟨fun _ => hS, H⟩
    · have := ready_mono hj hji
      rw [H.1] at this
      cases this
  | succ fuel ih =>
    intro listed a w inv hfree hr hy hS H
    have hun := (mem_ready.1 hr).1
    have his := (Array.getElem?_eq_some_iff.1 hi).1
    refine ⟨fun h => (by rw [h] at hr; cases hr), fun j hj => ?_⟩
    by_cases hji : j = i
    · subst hji; exact hy.wpOp hi hS ⟨fun _ => hS, H⟩
    · have hjz : j ≠ z := fun e => inv.not_ready hun his hiz (e ▸ hj)
      have h1 := H.2 j (ready_mono hj hji)
      obtain ⟨hjun, oj, hoj, hall⟩ := mem_ready.1 hj
      have hnot : ∀ e ∈ oj.after, Region.binds md e = true → e.on ≠ i := fun e he hb heq => by
        have h1 := hall e he hb
        rw [heq, getD_both hun] at h1
        cases h1
      have h2 := wpOp_still hoj (hfree j oj hoj hji hjun hnot) (fun cs b => hsel i oi cs b hi) (fun cs b => hsel j oj cs b hoj) hQ hy h1
      have hfree' : ∀ k ok, ops[k]? = some ok → k ≠ i → (listed.setIfInBounds j true).getD k true = false →
          (∀ e ∈ ok.after, Region.binds md e = true → e.on ≠ i) → oi.apart ops ok = true := fun k ok hk hki hun hno => by
        refine hfree k ok hk hki ?_ hno
        by_cases hjk : j = k
        · subst hjk; exact hjun
        · rw [getD_set_ne true hjk] at hun; exact hun
      refine wpOp_mono (fun a' w' h3 => ⟨fun _ => h3.2.1 hjz, ih (listed.setIfInBounds j true) a' w' (inv.set hj hjz) hfree' (ready_mono hr (Ne.symm hji)) h3.1 (h3.2.1 hjz) ?_⟩) h2
      rw [Array.setIfInBounds_comm _ _ hji]
      exact h3.2.2

/-- is what is listed closed downward, z not among it? -/
def closedB (md : Region.Mode) (ops : Array Oper) (z : Nat) (listed : Array Bool) : Bool :=
  listed.size == ops.size && ((List.range ops.size).all fun j => !listed.getD j false || match ops[j]? with
    | some oj => oj.after.all fun e => !Region.binds md e || listed.getD e.on false
    | none => true) && ((List.range ops.size).all fun t => decide (t < z) || !listed.getD t true)
theorem closedB_spec {listed : Array Bool} (h : closedB md ops z listed = true) : HeadInv md ops z listed := by
  unfold closedB at h
  simp only [Bool.and_eq_true, beq_iff_eq, List.all_eq_true, List.mem_range, Bool.or_eq_true, Bool.not_eq_true', decide_eq_true_eq] at h
  obtain ⟨⟨h1, h2⟩, h3⟩ := h
  refine ⟨h1, fun j oj hj hl e he hb => ?_, fun t ht hts => ?_⟩
  · have hjs := (Array.getElem?_eq_some_iff.1 hj).1
    rcases h2 j hjs with h | h
    · rw [hl] at h; cases h
    · simp only [hj] at h
      have h' := Array.all_eq_true'.1 h e he
      rw [hb] at h'
      simpa using h'
  · rcases h3 t hts with h | h
    · omega
    · exact h
def lastB (md : Region.Mode) (ops : Array Oper) (z : Nat) (listed : Array Bool) : Bool :=
  decide (ops.size ≤ z) || (Region.sinkB md ops z && Region.chainB md ops z && decide (ops.size = z + 1) && closedB md ops z listed)
theorem lastB_spec {listed : Array Bool} (h : lastB md ops z listed = true) : LastInv md ops z listed := by
  unfold lastB at h
  simp only [Bool.or_eq_true, Bool.and_eq_true, decide_eq_true_eq] at h
  rcases h with h | ⟨⟨⟨h1, h2⟩, h3⟩, h4⟩
  · exact .inl h
  · exact .inr ⟨h1, h2, by omega, closedB_spec h4, by omega⟩

/-- number i may be taken first now -/
def takeB (md : Region.Mode) (ops : Array Oper) (z : Nat) (listed : Array Bool) (i : Nat) : Bool :=
  Region.noSelect ops && Region.free md ops listed i && (Region.ready md ops listed).contains i && (i != z) && lastB md ops z listed

theorem Z_take (i : Nat) {oi : Oper} {v : Value} {fuel : Nat} {listed : Array Bool} {a : Act} {w : World} (hi : ops[i]? = some oi) (hB : takeB md ops z listed i = true)
    (hQ : ∀ c a w, Q (.panic c) (a.put oi.dst v) w → Q (.panic c) a w) (hw : Region.wanted oi (yielded ops a.tmps) = true) (hS : S w) (hy : ∀ wx, S wx → (execOp a.eval oi).run P wx = .ok (.value v) wx)
    (h : wpAnyZ P md ops Q S z fuel (listed.setIfInBounds i true) (a.put oi.dst v) w) : wpAnyZ P md ops Q S z (fuel + 1) listed a w := by
  unfold takeB at hB
  simp only [Bool.and_eq_true, bne_iff_ne] at hB
  obtain ⟨⟨⟨⟨h1, h2⟩, h3⟩, h4⟩, h5⟩ := hB
  exact wpAnyZ_first hi (Region.noSelect_spec h1) hQ h4 fuel listed a w (lastB_spec h5) (Region.free_spec hi h2) (by simpa using h3) (.inl ⟨hw, fun wx hx => by rw [hy wx hx]; exact ⟨rfl, rfl⟩⟩) hS h
/-- .. a call that leaves the world alone -/
theorem Z_call (i : Nat) {oi : Oper} {v : Value} {fuel : Nat} {listed : Array Bool} {a : Act} {w : World} {f : FuncId} {args : Array Value} (hi : ops[i]? = some oi) (hB : takeB md ops z listed i = true)
    (hQ : ∀ c a w, Q (.panic c) (a.put oi.dst v) w → Q (.panic c) a w) (hw : Region.wanted oi (yielded ops a.tmps) = true) (hS : S w) (hr : ∀ wx, (execOp a.eval oi).run P wx = .ok (.enter f args) wx)
    (hy : ∀ wx, S wx → Calls P f args wx fun e w' => e = .returned v ∧ wx = w') (h : wpAnyZ P md ops Q S z fuel (listed.setIfInBounds i true) (a.put oi.dst v) w) : wpAnyZ P md ops Q S z (fuel + 1) listed a w := by
  unfold takeB at hB
  simp only [Bool.and_eq_true, bne_iff_ne] at hB
  obtain ⟨⟨⟨⟨h1, h2⟩, h3⟩, h4⟩, h5⟩ := hB
  exact wpAnyZ_first hi (Region.noSelect_spec h1) hQ h4 fuel listed a w (lastB_spec h5) (Region.free_spec hi h2) (by simpa using h3) (.inl ⟨hw, fun wx hx => by rw [hr wx]; exact ⟨rfl, hy wx hx⟩⟩) hS h
/-- .. whose guard says no -/
theorem Z_skip (i : Nat) {oi : Oper} {fuel : Nat} {listed : Array Bool} {a : Act} {w : World} (hi : ops[i]? = some oi) (hB : takeB md ops z listed i = true)
    (hQ : ∀ c a w, Q (.panic c) (a.put oi.dst undef) w → Q (.panic c) a w) (hw : Region.wanted oi (yielded ops a.tmps) = false) (hS : S w)
    (h : wpAnyZ P md ops Q S z fuel (listed.setIfInBounds i true) (a.put oi.dst undef) w) : wpAnyZ P md ops Q S z (fuel + 1) listed a w := by
  unfold takeB at hB
  simp only [Bool.and_eq_true, bne_iff_ne] at hB
  obtain ⟨⟨⟨⟨h1, h2⟩, h3⟩, h4⟩, h5⟩ := hB
  exact wpAnyZ_first hi (Region.noSelect_spec h1) hQ h4 fuel listed a w (lastB_spec h5) (Region.free_spec hi h2) (by simpa using h3) (.inr ⟨hw, rfl⟩) hS h

/-- number i comes up alone -/
theorem Z_one (i : Nat) {o : Oper} {fuel : Nat} {listed : Array Bool} {a : Act} {w : World} (ho : ops[i]? = some o) (hr : Region.ready md ops listed = [i])
    (h : ∀ K : Act → World → Prop, (∀ a' w', (i ≠ z → S w') → wpAnyZ P md ops Q S z fuel (listed.setIfInBounds i true) a' w' → K a' w') → if Region.wanted o (yielded ops a.tmps) = true then Oper.wp P o a w K Q else K (a.put o.dst undef) w) :
    wpAnyZ P md ops Q S z (fuel + 1) listed a w := by
  refine ⟨fun h0 => (by rw [hr] at h0; cases h0), fun j hj => ?_⟩
  rw [hr] at hj
  obtain rfl := List.mem_singleton.1 hj
  refine wpOp_step ho fun K' hK' => h K' fun a' w' h1 h2 => hK' a' w' ⟨h1, h2⟩
theorem Z_mid (i : Nat) {o : Oper} {fuel : Nat} {listed : Array Bool} {a : Act} {w : World} (ho : ops[i]? = some o) (hr : Region.ready md ops listed = [i])
    (h : ∀ K : Act → World → Prop, (∀ a' w', S w' → (S w' → wpAnyZ P md ops Q S z fuel (listed.setIfInBounds i true) a' w') → K a' w') → if Region.wanted o (yielded ops a.tmps) = true then Oper.wp P o a w K Q else K (a.put o.dst undef) w) :
    wpAnyZ P md ops Q S z (fuel + 1) listed a w :=
  Z_one i ho hr fun _ hK => h _ fun a' w' h1 h2 => hK a' w' (fun _ => h1) (h2 h1)
theorem Z_last (i : Nat) {o : Oper} {fuel : Nat} {listed : Array Bool} {a : Act} {w : World} (ho : ops[i]? = some o) (hr : Region.ready md ops listed = [i]) (hz : i = z)
    (h : ∀ K : Act → World → Prop, (∀ a' w', wpAnyZ P md ops Q S z fuel (listed.setIfInBounds i true) a' w' → K a' w') → if Region.wanted o (yielded ops a.tmps) = true then Oper.wp P o a w K Q else K (a.put o.dst undef) w) :
    wpAnyZ P md ops Q S z (fuel + 1) listed a w :=
  Z_one i ho hr fun _ hK => h _ fun a' w' h2 => hK a' w' (fun h => absurd hz h) h2
theorem Z_done {listed : Array Bool} {a : Act} {w : World} (hr : Region.ready md ops listed = []) (h : Q .normal a w) : ∀ fuel, wpAnyZ P md ops Q S z fuel listed a w
  | 0 => ⟨hr, h⟩
  | _ + 1 => ⟨fun _ => h, by rw [hr]; simp⟩
theorem Z_begin {id : Nat} {a : Act} {w : World} (S : World → Prop) (z : Nat) {l : List Oper} (hm : P.follows .mixedOrders = true)
    (hS : ∀ w1, (∃ k, w1 = w.drewN k) → S w1) (h : ∀ w1, (∃ k, w1 = w.drewN k) → S w1 → wpAnyZ P .any l.toArray Q S z l.length (Array.replicate l.length false) a w1) : (Code.region id l.toArray true).wp P Q a w :=
  wp_region_any hm (by have := wpAny_of_Z _ _ _ _ (h w.drew ⟨1, rfl⟩ (hS _ ⟨1, rfl⟩)); simpa using this)
end
end Go.Proofs.Ytinfbpldgobmfaa
