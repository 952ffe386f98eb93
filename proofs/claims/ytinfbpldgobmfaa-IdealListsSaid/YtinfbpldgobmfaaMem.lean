/-
  Memory as a list of blocks, and what calls do to it: 'Holds w H': the world w has just the blocks of H, no block twice. Plain lemmas, no program in sight.
-/
import Derived.Below
import Derived.Laws.OwnMore
import Derived.Laws.Rows
import Derived.Laws.BytesArg
import Derived.Deep.Draws
import Derived.Lib.Hide
namespace Go.Proofs.Ytinfbpldgobmfaa
open Go.RowKit

abbrev HL := List (Nat × Obj)

/-- how often a block stands in a list -/
def keyc (b : Nat) : HL → Nat
  | [] => 0
  | p :: H => (if p.1 = b then 1 else 0) + keyc b H

theorem keyc_nil (b : Nat) : keyc b [] = 0 := rfl
theorem keyc_cons (b : Nat) (p : Nat × Obj) (H : HL) : keyc b (p :: H) = (if p.1 = b then 1 else 0) + keyc b H := rfl
theorem keyc_append (b : Nat) (A B : HL) : keyc b (A ++ B) = keyc b A + keyc b B := by
  induction A with
  | nil => simp [keyc]
  | cons p A ih => simp only [List.cons_append, keyc_cons, ih]; omega
theorem keyc_pos {b : Nat} {H : HL} (h : 0 < keyc b H) : ∃ o, (b, o) ∈ H := by
  induction H with
  | nil => simp [keyc] at h
  | cons p H ih =>
    rw [keyc_cons] at h
    by_cases hp : p.1 = b
    · exact ⟨p.2, by subst hp; simp⟩
    · rw [if_neg hp] at h
      obtain ⟨o, ho⟩ := ih (by omega)
      exact ⟨o, List.mem_cons_of_mem _ ho⟩
theorem keyc_mem {b : Nat} {o : Obj} {H : HL} (h : (b, o) ∈ H) : 0 < keyc b H := by
  induction H with
  | nil => cases h
  | cons p H ih =>
    rw [keyc_cons]
    rcases List.mem_cons.1 h with rfl | h
    · simp; omega
    · have := ih h; omega

structure Holds (w : World) (H : HL) : Prop where
  one : ∀ b, keyc b H ≤ 1
  mem : ∀ p, p ∈ H → w.heap[p.1]? = some p.2

/-- the streams as they were, no block gone -/
structure Grew (w w' : World) : Prop where
  os : w'.os = w.os
  tape : w'.tape = w.tape
  output : w'.output = w.output
  size : w.heap.size ≤ w'.heap.size

theorem Grew.refl (w : World) : Grew w w := ⟨rfl, rfl, rfl, Nat.le_refl _⟩
theorem Grew.trans {a b c : World} (h : Grew a b) (k : Grew b c) : Grew a c :=
  ⟨k.os.trans h.os, k.tape.trans h.tape, k.output.trans h.output, Nat.le_trans h.size k.size⟩
theorem Grew.drew {a w : World} (h : Grew a w) : Grew a w.drew := ⟨h.os, h.tape, h.output, h.size⟩
theorem Grew.drewN {a w : World} (h : Grew a w) (n : Nat) : Grew a (w.drewN n) := ⟨h.os, h.tape, h.output, h.size⟩
theorem Grew.alloc {a w : World} (h : Grew a w) (o : Obj) : Grew a (w.alloc o) := ⟨h.os, h.tape, h.output, by have := h.size; simp; omega⟩
theorem Grew.setCell {a w : World} (h : Grew a w) (p : Addr) (u : Value) : Grew a (w.setCell p u) := ⟨h.os, h.tape, h.output, by have := h.size; simpa using this⟩
theorem Grew.setRow {a w : World} (h : Grew a w) (g : Nat) (cs : Array Value) : Grew a (w.setRow g cs) := ⟨h.os, h.tape, h.output, by have := h.size; simpa [World.setRow] using this⟩

section
variable {w w' : World} {H H' A B C Fr : HL} {b : Nat} {cs : Array Value} {t : TypeId}

theorem Holds.lt (h : Holds w H) {p : Nat × Obj} (hp : p ∈ H) : p.1 < w.heap.size := (Array.getElem?_eq_some_iff.1 (h.mem p hp)).1

/-- fewer blocks, or the same in another order -/
theorem Holds.sub (h : Holds w H) (hm : ∀ p, p ∈ H' → p ∈ H) (hc : ∀ b, keyc b H' ≤ keyc b H) : Holds w H' :=
  ⟨fun b => Nat.le_trans (hc b) (h.one b), fun p hp => h.mem p (hm p hp)⟩
theorem Holds.left (h : Holds w (A ++ B)) : Holds w A :=
  h.sub (fun p hp => List.mem_append_left _ hp) (fun b => by rw [keyc_append]; omega)
theorem Holds.right (h : Holds w (A ++ B)) : Holds w B :=
  h.sub (fun p hp => List.mem_append_right _ hp) (fun b => by rw [keyc_append]; omega)
theorem Holds.swap (h : Holds w (A ++ (B ++ C))) : Holds w (B ++ (A ++ C)) :=
  h.sub (fun p hp => by simp only [List.mem_append] at hp ⊢; rcases hp with h | h | h <;> simp [h]) (fun b => by simp only [keyc_append]; omega)
theorem Holds.swap2 {D : HL} (h : Holds w (A ++ (B ++ (C ++ D)))) : Holds w (A ++ (C ++ (B ++ D))) :=
  h.sub (fun p hp => by simp only [List.mem_append] at hp ⊢; rcases hp with h | h | h | h <;> simp [h]) (fun b => by simp only [keyc_append]; omega)
theorem Holds.comm (h : Holds w (A ++ B)) : Holds w (B ++ A) :=
  h.sub (fun p hp => by simp only [List.mem_append] at hp ⊢; rcases hp with h | h <;> simp [h]) (fun b => by simp only [keyc_append]; omega)
theorem Holds.mid (h : Holds w (A ++ (B ++ C))) : Holds w (A ++ C) :=
  h.sub (fun p hp => by simp only [List.mem_append] at hp ⊢; rcases hp with h | h <;> simp [h]) (fun b => by simp only [keyc_append]; omega)
theorem Holds.assoc (h : Holds w ((A ++ B) ++ C)) : Holds w (A ++ (B ++ C)) := by rw [← List.append_assoc]; exact h
theorem Holds.assoc' (h : Holds w (A ++ (B ++ C))) : Holds w ((A ++ B) ++ C) := by rw [List.append_assoc]; exact h
theorem Holds.nil_ (w : World) : Holds w [] := ⟨fun b => by simp [keyc], fun p hp => by cases hp⟩

/-- two parts share no block -/
theorem Holds.apart (h : Holds w (A ++ B)) {x y : Nat × Obj} (hx : x ∈ A) (hy : y ∈ B) : x.1 ≠ y.1 := by
  intro e
  have h1 := h.one x.1
  have ha := keyc_mem (b := x.1) (o := x.2) hx
  have hb := keyc_mem (b := x.1) (o := y.2) (by rw [e]; exact hy)
  rw [keyc_append] at h1
  omega

theorem Holds.get (h : Holds w H) {o : Obj} (hm : (b, o) ∈ H) : w.heap[b]? = some o := h.mem _ hm
theorem Holds.cell (h : Holds w H) {fz : Nat × Nat} (hm : (b, Obj.cells cs t fz) ∈ H) (i : Nat) : w.cell? ⟨b, i, none⟩ = cs[i]? :=
  cell_of_row w b i cs t fz (h.get hm)
theorem Holds.frozen (h : Holds w H) (hm : (b, Obj.cells cs t (0, 0)) ∈ H) (i : Nat) : w.frozen? ⟨b, i, none⟩ = false := by
  have := h.get hm
  simp [World.frozen?, this]

theorem Holds.drew (h : Holds w H) : Holds w.drew H := ⟨h.one, h.mem⟩
theorem Holds.drewN (h : Holds w H) (n : Nat) : Holds (w.drewN n) H := ⟨h.one, h.mem⟩
theorem Holds.undrewN {n : Nat} (h : Holds (w.drewN n) H) : Holds w H := ⟨h.one, h.mem⟩
theorem Holds.alloc (h : Holds w H) (o : Obj) : Holds (w.alloc o) ((w.heap.size, o) :: H) := by
  refine ⟨fun b => ?_, fun p hp => ?_⟩
  · rw [keyc_cons]
    have h1 := h.one b
    by_cases hb : w.heap.size = b
    · have : keyc b H = 0 := by
        rcases Nat.eq_zero_or_pos (keyc b H) with h0 | h0
        · exact h0
        · obtain ⟨o', ho'⟩ := keyc_pos h0
          have := h.lt ho'
          simp only at this
          omega
      rw [if_pos hb]; omega
    · rw [if_neg hb]; omega
  · rcases List.mem_cons.1 hp with rfl | hp
    · exact heap_alloc_new w o
    · exact (Below.heap_alloc w o p.1 (h.lt hp)).trans (h.mem p hp)
theorem Holds.set (h : Holds w ((b, Obj.cells cs t (0, 0)) :: H)) (i : Nat) (u : Value) : Holds (w.setCell ⟨b, i, none⟩ u) ((b, Obj.cells (cs.setIfInBounds i u) t (0, 0)) :: H) := by
  refine ⟨fun c => ?_, fun p hp => ?_⟩
  · have := h.one c; rw [keyc_cons] at this ⊢; exact this
  · rcases List.mem_cons.1 hp with rfl | hp
    · have := h.get (List.mem_cons_self)
      simp [World.setCell, Array.getElem?_modify, this]
    · have hne := Holds.apart (A := [(b, Obj.cells cs t (0, 0))]) (B := H) (by simpa using h) (List.mem_singleton.2 rfl) hp
      exact (Below.heap_setCell w _ u p.1 (fun e => hne e.symm)).trans (h.mem p (List.mem_cons_of_mem _ hp))
theorem Holds.setRow (h : Holds w ((b, Obj.cells cs t (0, 0)) :: H)) (cs' : Array Value) : Holds (w.setRow b cs') ((b, Obj.cells cs' t (0, 0)) :: H) := by
  refine ⟨fun c => ?_, fun p hp => ?_⟩
  · have := h.one c; rw [keyc_cons] at this ⊢; exact this
  · rcases List.mem_cons.1 hp with rfl | hp
    · exact setRow_heap w b cs cs' t _ (h.get (List.mem_cons_self))
    · have hne := Holds.apart (A := [(b, Obj.cells cs t (0, 0))]) (B := H) (by simpa using h) (List.mem_singleton.2 rfl) hp
      exact (setRow_other w b p.1 _ (fun e => hne e.symm)).trans (h.mem p (List.mem_cons_of_mem _ hp))
/-- what is as it was below a number is there still -/
theorem Holds.below {B : Nat} (h : Holds w H) (hb : Below B w w') (hl : ∀ p, p ∈ H → p.1 < B) : Holds w' H :=
  ⟨h.one, fun p hp => (hb.block p.1 (hl p hp)).trans (h.mem p hp)⟩
end

/-- what was known of w is so in wx: no block of old has turned -/
structure Later (w wx : World) : Prop where
  block : ∀ (k : Nat) o, w.heap[k]? = some o → wx.heap[k]? = some o
theorem Later.refl (w : World) : Later w w := ⟨fun _ _ h => h⟩
theorem Later.trans {a b c : World} (h : Later a b) (k : Later b c) : Later a c := ⟨fun i o e => k.block i o (h.block i o e)⟩
theorem Later.same {w wx : World} (he : wx.heap = w.heap) : Later w wx := ⟨fun k o h => by rw [he]; exact h⟩
theorem Later.push {w wx : World} {o : Obj} (he : wx.heap = w.heap.push o) : Later w wx := ⟨fun k o' h => by
  rw [he, Array.getElem?_push, if_neg (by have := (Array.getElem?_eq_some_iff.1 h).1; omega)]; exact h⟩
theorem Later.push2 {w wx : World} {o o2 : Obj} (he : wx.heap = (w.heap.push o).push o2) : Later w wx :=
  Later.trans (b := { w with heap := w.heap.push o }) (Later.push rfl) (Later.push he)
theorem Later.holds {w wx : World} {H : HL} (h : Later w wx) (hH : Holds w H) : Holds wx H := ⟨hH.one, fun p hp => h.block p.1 p.2 (hH.mem p hp)⟩
theorem Later.cell {w wx : World} (h : Later w wx) {p : Addr} {u : Value} (hc : w.cell? p = some u) : wx.cell? p = some u := by
  have hk := World.block_lt_of_cell? w p hc
  have he := Array.getElem?_eq_getElem hk
  rw [World.cell?_of_block (w := w) ((h.block _ _ he).trans he.symm)]; exact hc
theorem Later.drN (w : World) (q : Nat) : Later w (w.drewN q) := Later.same rfl
theorem Later.dr {w wx : World} (h : ∃ k, wx = w.drewN k) : Later w wx := by obtain ⟨k, rfl⟩ := h; exact Later.same rfl
theorem Grew.dr {w wx : World} (h : ∃ k, wx = w.drewN k) : Grew w wx := by obtain ⟨k, rfl⟩ := h; exact (Grew.refl w).drewN k
theorem Holds.dr {w wx : World} {H : HL} (hH : Holds w H) (h : ∃ k, wx = w.drewN k) : Holds wx H := by obtain ⟨k, rfl⟩ := h; exact hH.drewN k

/-- all blocks that there are -/
def allOf (w : World) : HL := (List.range w.heap.size).map fun k => (k, (w.heap[k]?).getD (.deferred none))
theorem keyc_map_range (f : Nat → Obj) (b : Nat) : ∀ n, keyc b ((List.range n).map fun k => (k, f k)) = if b < n then 1 else 0
  | 0 => by simp [keyc]
  | n + 1 => by
    rw [List.range_succ, List.map_append, keyc_append, keyc_map_range f b n]
    simp only [List.map_cons, List.map_nil, keyc_cons, keyc_nil]
    by_cases h : b < n
    · rw [if_pos h, if_neg (by omega), if_pos (by omega)]
    · by_cases h' : b = n
      · subst h'; simp
      · rw [if_neg h, if_neg (by omega), if_neg (by omega)]
theorem holds_all (w : World) : Holds w (allOf w) := by
  refine ⟨fun b => ?_, fun p hp => ?_⟩
  · unfold allOf; rw [keyc_map_range]; split <;> omega
  · unfold allOf at hp
    obtain ⟨k, hk, rfl⟩ := List.mem_map.1 hp
    have hk' : k < w.heap.size := by simpa using hk
    simp [Array.getElem?_eq_getElem hk']
theorem mem_allOf {w : World} {b : Nat} {o : Obj} (h : w.heap[b]? = some o) : (b, o) ∈ allOf w := by
  have hk := (Array.getElem?_eq_some_iff.1 h).1
  unfold allOf
  exact List.mem_map.2 ⟨b, by simpa using hk, by simp [h]⟩
theorem below_all {W w : World} {H : HL} (h : Holds w (H ++ allOf W)) (hg : Grew W w) : Below W.heap.size W w := by
  refine ⟨hg.os, hg.tape, hg.output, hg.size, fun k hk => ?_⟩
  have hW := Array.getElem?_eq_getElem hk
  rw [h.get (List.mem_append_right _ (mem_allOf hW)), hW]
theorem below_all' {W w : World} (h : Holds w (allOf W)) (hg : Grew W w) : Below W.heap.size W w := below_all (H := []) (by simpa using h) hg
theorem all_block {W w : World} {H : HL} (h : Holds w (H ++ allOf W)) {k : Nat} (hk : k < W.heap.size) : w.heap[k]? = W.heap[k]? := by
  have hW := Array.getElem?_eq_getElem hk
  rw [h.get (List.mem_append_right _ (mem_allOf hW)), hW]
theorem all_cell {W w : World} {H : HL} (h : Holds w (H ++ allOf W)) {p : Addr} {u : Value} (hc : W.cell? p = some u) : w.cell? p = some u := by
  have hk := World.block_lt_of_cell? W p hc
  rw [World.cell?_of_block (w := W) (all_block h hk), hc]

end Go.Proofs.Ytinfbpldgobmfaa
