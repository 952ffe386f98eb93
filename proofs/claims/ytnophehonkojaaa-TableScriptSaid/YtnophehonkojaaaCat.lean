/-
  What slices.Concat and slices.Grow need: slices of slices that are read; append of so many zeros onto none. No program in sight.
-/
import Derived.Test.YtnophehonkojaaaRows3
import Derived.Lib.AppendZeros
namespace Go.Proofs.Ytnophehonkojaaa
open Go.RowKit
set_option linter.unusedSimpArgs false
set_option linter.unusedVariables false

/-- a slice of slices that are read: each by how many elements it has, and its cells -/
def RowsAt (w : World) (size : Nat) (v : Value) (l : List (Nat × List Value)) : Prop :=
  ∃ evs : List Value, ReadsAt w 1 v l.length evs ∧ evs.length = l.length ∧ ∀ (i : Nat) (e : Value) (x : Nat × List Value), evs[i]? = some e → l[i]? = some x → ReadsAt w size e x.1 x.2
def FrRows (Fr : HL) (size : Nat) (v : Value) (l : List (Nat × List Value)) : Prop := ∀ w, Holds w Fr → RowsAt w size v l
def catN (l : List (Nat × List Value)) : Nat := (l.map (·.1)).sum
def catC (l : List (Nat × List Value)) : List Value := (l.map (·.2)).flatten
theorem catN_take (l : List (Nat × List Value)) (k : Nat) : catN (l.take k) ≤ catN l := by
  have h : catN l = catN (l.take k) + catN (l.drop k) := by
    unfold catN
    rw [← List.sum_append, ← List.map_append, List.take_append_drop]
  omega
theorem catN_succ (l : List (Nat × List Value)) (k : Nat) (h : k < l.length) : catN (l.take (k + 1)) = catN (l.take k) + l[k].1 := by
  unfold catN
  rw [List.take_succ_eq_append_getElem h, List.map_append, List.sum_append]
  simp
theorem catC_succ (l : List (Nat × List Value)) (k : Nat) (h : k < l.length) : catC (l.take (k + 1)) = catC (l.take k) ++ l[k].2 := by
  unfold catC
  rw [List.take_succ_eq_append_getElem h, List.map_append, List.flatten_append]
  simp
theorem catC_mem (l : List (Nat × List Value)) (k : Nat) (h : k < l.length) {x : Value} (hx : x ∈ l[k].2) : x ∈ catC l := by
  unfold catC
  exact List.mem_flatten.2 ⟨l[k].2, List.mem_map.2 ⟨l[k], List.getElem_mem h, rfl⟩, hx⟩

theorem wpList_append_zeros {P : Program} {w : World} {e t tn : TypeId} {size bytes : Nat} {z : Value} {Fr : HL} {kn : IntKind} {ops : Array Oper} {rest : List Oper} {o : Oper} {a : Act} {Q : Exit → Act → World → Prop} (hT : SlT P t e size bytes z) (hgd : o.guard = none) (s x : Operand) 
    (htn : P.underlying tn = some (.int kn)) (ho : o.op = .call { callee := .builtin .append, args := #[s, x], argTypes := #[t, tn] })
    (hs : a.eval s = .slice none 0 0) {m : Nat} (hx : a.eval x = .int .i64 m) (h0 : 0 < m) (hm : m ≤ maxLen) (hb : m * bytes ≤ 140737488355328) (hH : Holds w Fr)
    (h : ∀ cap cs w', m ≤ cap → cap ≤ maxLen → cap * size ≤ cs.size → Holds w' ((w.heap.size, .cells cs e) :: Fr) → Grew w w' → wpList P ops Q rest (a.put o.dst (.slice (some ⟨w.heap.size, 0, none⟩) m cap)) w') : wpList P ops Q (o :: rest) a w := by
  obtain ⟨i, hi, hz, hsz, hby⟩ := hT.info
  subst hsz; subst hby
  have hr := Lib.run_append_nil_zeros (P := P) w t tn o.type e i z .i64 kn hT.under htn hi hz m h0 hT.pos (by simp only [maxLen] at hm; omega) (by omega)
  refine Lib.wpList_append_run w hgd s x t tn ho _ _ hs hx _ _ hr ?_
  have hg := grownCap_bd w m 0 e hm
  refine h _ _ _ hg.1 hg.2 ?_ (hH.drew.alloc _) ((Grew.refl w).drew.alloc _)
  simp only [Array.size_append, size_zeroCells, hT.cells, ← Nat.add_mul]
  exact Nat.mul_le_mul_right _ (by omega)
end Go.Proofs.Ytnophehonkojaaa
