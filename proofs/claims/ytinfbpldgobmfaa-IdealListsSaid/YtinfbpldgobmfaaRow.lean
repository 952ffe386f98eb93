/-
  Slices that an object owns, as rows of cells: 'IsRow e size v n xs H': the slice value v has n elements of type e (size cells each), their cells are xs, and H is the block it lies in. Laws for append, stores, make. No program in sight.
-/
import Derived.Test.YtinfbpldgobmfaaMem
import Derived.Maps.AppendAt
import Derived.Laws.CopyRow
import Derived.Laws.IdiomStrings
import Derived.Laws.MakeOwn
import Derived.Tactics
import Derived.OwnWalk
namespace Go.Proofs.Ytinfbpldgobmfaa
open Go.RowKit

/-- nothing of the first n cells is frozen -/
def okfz (fz : Nat × Nat) (n : Nat) : Prop := ∀ i, i < n → ¬ (fz.1 ≤ i ∧ i < fz.2)
theorem okfz_zero (n : Nat) : okfz (0, 0) n := fun i _ h => by simp at h
theorem okfz_str (n : Nat) : okfz (n, n + 1) n := fun i hi h => by simp at h; omega

section
variable {w w' : World} {H H' A B C Fr : HL} {b : Nat} {cs : Array Value} {t : TypeId} {fz : Nat × Nat}
theorem frozen_of_block (hg : w.heap[b]? = some (.cells cs t fz)) (hf : okfz fz cs.size) {i : Nat} (hi : i < cs.size) : w.frozen? ⟨b, i, none⟩ = false := by
  have := hf i hi
  obtain ⟨lo, h'⟩ := fz
  simp only [World.frozen?, hg]
  simp only at this
  simp
  omega
theorem Holds.set' (h : Holds w ((b, Obj.cells cs t fz) :: H)) (i : Nat) (u : Value) : Holds (w.setCell ⟨b, i, none⟩ u) ((b, Obj.cells (cs.setIfInBounds i u) t fz) :: H) := by
  refine ⟨fun c => ?_, fun p hp => ?_⟩
  · have := h.one c; rw [keyc_cons] at this ⊢; exact this
  · rcases List.mem_cons.1 hp with rfl | hp
    · have := h.get (List.mem_cons_self)
      simp [World.setCell, Array.getElem?_modify, this]
    · have hne := Holds.apart (A := [(b, Obj.cells cs t fz)]) (B := H) (by simpa using h) (List.mem_singleton.2 rfl) hp
      exact (Below.heap_setCell w _ u p.1 (fun e => hne e.symm)).trans (h.mem p (List.mem_cons_of_mem _ hp))
theorem Holds.setRow' (h : Holds w ((b, Obj.cells cs t fz) :: H)) (cs' : Array Value) : Holds (w.setRow b cs') ((b, Obj.cells cs' t fz) :: H) := by
  refine ⟨fun c => ?_, fun p hp => ?_⟩
  · have := h.one c; rw [keyc_cons] at this ⊢; exact this
  · rcases List.mem_cons.1 hp with rfl | hp
    · exact setRow_heap w b cs cs' t fz (h.get (List.mem_cons_self))
    · have hne := Holds.apart (A := [(b, Obj.cells cs t fz)]) (B := H) (by simpa using h) (List.mem_singleton.2 rfl) hp
      exact (setRow_other w b p.1 _ (fun e => hne e.symm)).trans (h.mem p (List.mem_cons_of_mem _ hp))
end

theorem Holds.hcell {w : World} {b : Nat} {cs : Array Value} {t : TypeId} {fz : Nat × Nat} {H : HL} (h : Holds w ((b, Obj.cells cs t fz) :: H)) (i : Nat) : w.cell? ⟨b, i, none⟩ = cs[i]? := h.cell (t := t) (fz := fz) (by simp) i
theorem Holds.hlt {w : World} {b : Nat} {o : Obj} {H : HL} (h : Holds w ((b, o) :: H)) : b < w.heap.size := h.lt (p := (b, o)) (by simp)
theorem Holds.hfrozen {w : World} {b : Nat} {cs : Array Value} {t : TypeId} {H : HL} (h : Holds w ((b, Obj.cells cs t) :: H)) (i : Nat) : w.frozen? ⟨b, i, none⟩ = false := h.frozen (t := t) (cs := cs) (by simp) i

theorem storeCells_fz {P : Program} (g o : Nat) (t : TypeId) (fz : Nat × Nat) : ∀ (vs : List Value) (i : Nat) (cur : Array Value) (w : World), w.heap[g]? = some (.cells cur t fz) → okfz fz cur.size → o + i + vs.length ≤ cur.size → (∀ v ∈ vs, v.oneCell' = true) →
    (storeCells ⟨g, o, none⟩ vs i).run P w = .ok () (w.setRow g (cur.toList.take (o + i) ++ vs ++ cur.toList.drop (o + i + vs.length)).toArray)
  | [], i, cur, w, hg, _, _, _ => by
    simp only [storeCells, List.append_nil, List.length_nil, Nat.add_zero, List.take_append_drop, Array.toArray_toList]
    rw [setRow_self w g cur t fz hg]
    rfl
  | v :: rest, i, cur, w, hg, hf, hl, h1 => by
    have hi : o + i < cur.size := by simp at hl; omega
    have hadd : (⟨g, o, none⟩ : Addr).add i = ⟨g, o + i, none⟩ := by unfold Addr.add; split <;> simp_all
    have hcell : w.cell? ⟨g, o + i, none⟩ = some cur[o + i] := by simp [World.cell?, hg, hi]
    have hfro : w.frozen? ⟨g, o + i, none⟩ = false := frozen_of_block hg hf hi
    have hst : (store ((⟨g, o, none⟩ : Addr).add i) v).run P w = .ok () (w.setRow g (cur.setIfInBounds (o + i) v)) := by
      rw [hadd, run_store P w _ v _ (h1 v (by simp)), hcell]
      simp [hfro, setCell_eq_setRow w g (o + i) cur t fz v hg]
    have ih := storeCells_fz (P := P) g o t fz rest (i + 1) (cur.setIfInBounds (o + i) v) (w.setRow g (cur.setIfInBounds (o + i) v)) (setRow_heap w g cur _ t _ hg) (by simpa using hf) (by simp at hl ⊢; omega) (fun x hx => h1 x (by simp [hx]))
    simp only [storeCells, Sem.run_bind, hst, Result.andThen_ok, ih, setRow_setRow]
    congr 3
    have e := list_seg_step cur.toList (o + i) v rest (by simp at hl ⊢; omega)
    simpa [Array.toList_setIfInBounds, Nat.add_assoc] using e

/-- a slice of an object's own -/
def IsRow (e : TypeId) (size : Nat) (v : Value) (n : Nat) (xs : List Value) (H : HL) : Prop :=
  xs.length = n * size ∧
  ((v = .slice none 0 0 ∧ n = 0 ∧ H = []) ∨
   ∃ g cap cur fz, v = .slice (some ⟨g, 0, none⟩) n cap ∧ n ≤ cap ∧ cap ≤ maxLen ∧ cap * size ≤ cur.size ∧ cur.toList.take (n * size) = xs ∧ okfz fz cur.size ∧ H = [(g, .cells cur e fz)])

theorem IsRow.nil (e : TypeId) (size : Nat) : IsRow e size (.slice none 0 0) 0 [] [] := ⟨by simp, .inl ⟨rfl, rfl, rfl⟩⟩

/-- a slice that is only read: its cells in the world w -/
def ReadsAt (w : World) (size : Nat) (v : Value) (n : Nat) (xs : List Value) : Prop :=
  xs.length = n * size ∧ ∃ A c, v = .slice A n c ∧ n ≤ c ∧ c ≤ maxLen ∧ (0 < n → ∃ b o, A = some ⟨b, o, none⟩ ∧ ∀ j u, xs[j]? = some u → w.cell? ⟨b, o + j, none⟩ = some u)

section
variable {w w' : World} {e : TypeId} {size n : Nat} {v : Value} {xs : List Value} {H Fr : HL}

theorem ReadsAt.drew (h : ReadsAt w size v n xs) : ReadsAt w.drew size v n xs := h
theorem ReadsAt.drewN (h : ReadsAt w size v n xs) (k : Nat) : ReadsAt (w.drewN k) size v n xs := h
theorem ReadsAt.undrewN {k : Nat} (h : ReadsAt (w.drewN k) size v n xs) : ReadsAt w size v n xs := h
theorem ReadsAt.keep (h : ReadsAt w size v n xs) (hk : ∀ p u, w.cell? p = some u → w'.cell? p = some u) : ReadsAt w' size v n xs := by
  obtain ⟨h1, A, c, hv, hn, hc, h2⟩ := h
  refine ⟨h1, A, c, hv, hn, hc, fun h0 => ?_⟩
  obtain ⟨b, o, hA, h3⟩ := h2 h0
  exact ⟨b, o, hA, fun j u hu => hk _ _ (h3 j u hu)⟩
theorem IsRow.reads (h : IsRow e size v n xs H) (hH : Holds w (H ++ Fr)) : ReadsAt w size v n xs := by
  obtain ⟨h1, h2⟩ := h
  refine ⟨h1, ?_⟩
  rcases h2 with ⟨rfl, rfl, rfl⟩ | ⟨g, cap, cur, fz, rfl, hn, hc, hs, ht, hf, rfl⟩
  · exact ⟨none, 0, rfl, by omega, by simp [maxLen], fun h => absurd h (by omega)⟩
  · refine ⟨_, _, rfl, hn, hc, fun _ => ⟨g, 0, rfl, fun j u hu => ?_⟩⟩
    rw [← ht, List.getElem?_take] at hu
    split at hu
    · rw [hH.cell (t := e) (cs := cur) (fz := fz) (by simp)]
      simpa using hu
    · cases hu
theorem IsRow.le (h : IsRow e size v n xs H) : n ≤ maxLen := by
  rcases h.2 with ⟨_, rfl, _⟩ | ⟨g, cap, cur, fz, rfl, hn, hc, _⟩
  · simp
  · omega
theorem ReadsAt.le (h : ReadsAt w size v n xs) : n ≤ maxLen := by
  obtain ⟨_, A, c, _, hn, hc, _⟩ := h; omega

theorem IsRow.val (h : IsRow e size v n xs H) : ∃ A c, v = .slice A n c := by
  rcases h.2 with ⟨rfl, rfl, _⟩ | ⟨g, cap, cur, fz, rfl, _⟩
  · exact ⟨_, _, rfl⟩
  · exact ⟨_, _, rfl⟩

/-- a fresh block made by a literal -/
theorem IsRow.made {e : TypeId} (g n : Nat) (cs : Array Value) (hs : cs.size = n * size) (hn : n ≤ maxLen) : IsRow e size (.slice (some ⟨g, 0, none⟩) n n) n cs.toList [(g, .cells cs e)] :=
  ⟨by simpa using hs, .inr ⟨g, n, cs, (0, 0), rfl, Nat.le_refl _, hn, by omega, by rw [← hs, ← Array.length_toList, List.take_length], okfz_zero _, rfl⟩⟩
theorem IsRow.made0 {e : TypeId} (g n : Nat) (cs : Array Value) (hs : cs.size = n * size) (hn : n ≤ maxLen) : IsRow e size (.slice (some ⟨g, 0, none⟩) 0 n) 0 [] [(g, .cells cs e)] :=
  ⟨by simp, .inr ⟨g, n, cs, (0, 0), rfl, Nat.zero_le _, hn, by omega, by simp, okfz_zero _, rfl⟩⟩

/-- what a slice literal or a box has just laid is read -/
theorem ReadsAt.of_block {g o n c : Nat} {cs : Array Value} {e : TypeId} {fz : Nat × Nat} (hg : w.heap[g]? = some (.cells cs e fz)) (xs : List Value) (hx : xs.length = n * size) (hn : n ≤ c) (hc : c ≤ maxLen)
    (h : ∀ j u, xs[j]? = some u → cs[o + j]? = some u) : ReadsAt w size (.slice (some ⟨g, o, none⟩) n c) n xs :=
  ⟨hx, _, _, rfl, hn, hc, fun _ => ⟨g, o, rfl, fun j u hu => by rw [cell_of_row w g (o + j) cs e fz hg]; exact h j u hu⟩⟩
end

/-- one cell of an own row: what it holds, and the row behind a store there -/
theorem IsRow.cell {w : World} {e : TypeId} {size n : Nat} {v : Value} {xs : List Value} {H Fr : HL} (h : IsRow e size v n xs H) (hH : Holds w (H ++ Fr)) {j : Nat} (hj : j < xs.length) :
    ∃ g cap, v = .slice (some ⟨g, 0, none⟩) n cap ∧ n ≤ cap ∧ cap ≤ maxLen ∧ g < w.heap.size ∧ w.cell? ⟨g, j, none⟩ = some xs[j] ∧ w.frozen? ⟨g, j, none⟩ = false ∧
      ∀ (w' : World) (Fr' : HL), Holds w' (H ++ Fr') → ∀ u, ∃ H', IsRow e size v n (xs.set j u) H' ∧ Holds (w'.setCell ⟨g, j, none⟩ u) (H' ++ Fr') := by
  obtain ⟨hl, h2⟩ := h
  rcases h2 with ⟨rfl, rfl, rfl⟩ | ⟨g, cap, cur, fz, rfl, hn, hc, hs, ht, hf, rfl⟩
  · simp at hl; subst hl; simp at hj
  · have hnc : n * size ≤ cap * size := Nat.mul_le_mul_right _ hn
    have hjc : j < cur.size := by omega
    have hg : w.heap[g]? = some (.cells cur e fz) := hH.get (by simp)
    refine ⟨g, cap, rfl, hn, hc, hH.lt (p := (g, .cells cur e fz)) (by simp), ?_, frozen_of_block hg hf hjc, fun w' Fr' h' u => ?_⟩
    · rw [cell_of_row w g j cur e fz hg]
      have : xs[j]? = some xs[j] := List.getElem?_eq_getElem hj
      rw [← this, ← ht, List.getElem?_take, if_pos (by omega)]
      simp
    · refine ⟨[(g, .cells (cur.setIfInBounds j u) e fz)], ⟨by simpa using hl, .inr ⟨g, cap, _, fz, rfl, hn, hc, by simpa using hs, ?_, by simpa using hf, rfl⟩⟩, ?_⟩
      · rw [Array.toList_setIfInBounds, List.take_set, ht]
      · exact Holds.set' (H := Fr') (by simpa using h') j u

section
variable {P : Program} {w : World} {e : TypeId} {size n : Nat} {v : Value} {xs : List Value} {H Fr : HL}

theorem addr_add_lit (b o k : Nat) : (⟨b, o, none⟩ : Addr).add k = ⟨b, o + k, none⟩ := by unfold Addr.add; split <;> simp_all

theorem grownCap_bd (w : World) (need old : Nat) (e : TypeId) (h : need ≤ maxLen) : need ≤ grownCap w need old e ∧ grownCap w need old e ≤ maxLen := ⟨grownCap_ge w need old e, grownCap_le_maxLen w need old e h⟩

/-- append onto a slice of an object's own; the source is read before -/
theorem run_append_row (t ty : TypeId) (i : TypeInfo) (z : Value) (bytes : Nat) (ht : P.underlying t = some (.slice e)) (hi : P.info? e = some i) (hz : i.zero = some z)
    (hsize : i.size = size) (hby : i.bytes = bytes) (hzs : z.cells.size = size) (hsz : 0 < size)
    (hrow : IsRow e size v n xs H) (hH : Holds w (H ++ Fr)) {u : Value} {m : Nat} {news : List Value} (hsrc : ReadsAt w size u m news) (h1 : ∀ x ∈ news, x.oneCell' = true)
    (h63 : n + m ≤ maxLen) (hbytes : (n + m) * bytes ≤ 140737488355328) :
    ∃ v' w' H', (Builtin.append_ #[t, t] ty #[v, u]).run P w = .ok v' w' ∧ IsRow e size v' (n + m) (xs ++ news) H' ∧ Holds w' (H' ++ Fr) ∧ Grew w w' := by
  subst hsize
  subst hby
  obtain ⟨hl, A, c, rfl, hmc, hcm, hsr⟩ := hsrc
  have hsmall : n + m ≤ 9223372036854775807 := by simp only [maxLen] at h63; omega
  have hlen : (xs ++ news).length = (n + m) * i.size := by rw [List.length_append, hrow.1, hl, Nat.add_mul]
  by_cases hm : m = 0
  · -- nothing is appended
    subst hm
    have hn0 : news = [] := List.eq_nil_of_length_eq_zero (by simpa using hl)
    subst hn0
    refine ⟨v, w, H, ?_, by simpa using hrow, hH, Grew.refl w⟩
    rcases hrow.2 with ⟨rfl, rfl, rfl⟩ | ⟨g, cap, cur, fz, rfl, hn, hc, hs, htk, hf, rfl⟩
    · cases A <;> simp [Builtin.append_, run_underlying ht, sizeOf, typeInfo, hi, Builtin.lenOf, Builtin.firstCells, loadCells, loadCellsFrom]
    · cases A <;> simp [Builtin.append_, run_underlying ht, sizeOf, typeInfo, hi, Builtin.lenOf, Builtin.firstCells, hn, storeCells, loadCells, loadCellsFrom]
  · obtain ⟨b, o, rfl, hnews0⟩ := hsr (by omega)
    have hnews : ∀ j u, news[j]? = some u → w.cell? ((⟨b, o, none⟩ : Addr).add j) = some u := fun j u hu => by rw [addr_add_lit]; exact hnews0 j u hu
    have grown : ∀ (olds : List Value) (old : Nat), olds = xs → Holds w Fr → 
        ∃ H', IsRow e i.size (.slice (some ⟨w.heap.size, 0, none⟩) (n + m) (grownCap w (n + m) old e)) (n + m) (xs ++ news) H' ∧
          Holds (w.drew.alloc (.cells (olds.toArray ++ news.toArray ++ Builtin.zeroCells z.cells (grownCap w (n + m) old e - (n + m))) e)) (H' ++ Fr) := by
      intro olds old ho hFr
      subst ho
      have hge := grownCap_ge w (n + m) old e
      have hcm : grownCap w (n + m) old e ≤ maxLen := grownCap_le_maxLen w (n + m) old e h63
      refine ⟨[(w.heap.size, _)], ⟨hlen, .inr ⟨w.heap.size, _, _, _, rfl, hge, hcm, ?_, ?_, okfz_zero _, rfl⟩⟩, hFr.drew.alloc _⟩
      · simp only [Array.size_append, List.size_toArray, size_zeroCells, hzs, hrow.1, hl, ← Nat.add_mul]
        exact Nat.mul_le_mul_right _ (by omega)
      · simp only [Array.toList_append, List.append_assoc]
        rw [← List.append_assoc, ← hlen]
        exact List.take_left
    rcases hrow.2 with ⟨rfl, rfl, rfl⟩ | ⟨g, cap, cur, fz, rfl, hnc, hcm', hcs, htake, hf, rfl⟩
    · have hx : xs = [] := List.eq_nil_of_length_eq_zero (by simpa using hrow.1)
      subst hx
      have hr := run_append_nil (P := P) w t ty e i z ht hi hz ⟨b, o, none⟩ m c news hl hnews (by omega) (by omega) (by have hb := hbytes; simp only [Nat.zero_add] at hb; omega)
      obtain ⟨H', hg1, hg2⟩ := grown [] 0 rfl (by simpa using hH)
      simp only [Nat.zero_add, List.nil_append] at hg1 hg2 ⊢
      refine ⟨_, _, H', hr, hg1, ?_, (Grew.refl w).drew.alloc _⟩
      simpa using hg2
    · by_cases hroom : n + m ≤ cap
      · have hfit : n * i.size + news.length ≤ cur.size := by rw [hl, ← Nat.add_mul]; exact Nat.le_trans (Nat.mul_le_mul_right _ hroom) hcs
        have hg : w.heap[g]? = some (.cells cur e fz) := hH.get (by simp)
        have hfc := run_firstCells_some (P := P) w i.size m ⟨b, o, none⟩ m c news hl hnews
        have hst := storeCells_fz (P := P) g (n * i.size) e fz news 0 cur w hg hf (by simpa using hfit) h1
        simp only [Nat.add_zero] at hst
        have hr : (Builtin.append_ #[t, t] ty #[.slice (some ⟨g, 0, none⟩) n cap, .slice (some ⟨b, o, none⟩) m c]).run P w =
            .ok (.slice (some ⟨g, 0, none⟩) (n + m) cap) (w.setRow g (cur.toList.take (n * i.size) ++ news ++ cur.toList.drop (n * i.size + news.length)).toArray) := by
          simp [Builtin.append_, run_underlying ht, sizeOf, typeInfo, hi, Builtin.lenOf, hroom, hfc, Addr.add_lit, hst]
        have hcsz : (cur.toList.take (n * i.size) ++ news ++ cur.toList.drop (n * i.size + news.length)).toArray.size = cur.size := by
          simp only [List.size_toArray, List.length_append, List.length_take, List.length_drop, Array.length_toList]; omega
        refine ⟨_, _, [(g, .cells (cur.toList.take (n * i.size) ++ news ++ cur.toList.drop (n * i.size + news.length)).toArray e fz)], hr, ⟨hlen, .inr ⟨g, cap, _, fz, rfl, hroom, hcm', ?_, ?_, ?_, rfl⟩⟩, ?_, (Grew.refl w).setRow _ _⟩
        · rw [hcsz]; exact hcs
        · rw [htake, ← hlen]; exact List.take_left
        · rw [hcsz]; exact hf
        · exact Holds.setRow' (H := Fr) (by simpa using hH) _
      · have hreads : ∀ j u, xs[j]? = some u → w.cell? ((⟨g, 0, none⟩ : Addr).add j) = some u := by
          intro j u hu
          rw [addr_add_lit, Nat.zero_add, hH.cell (t := e) (cs := cur) (fz := fz) (by simp)]
          rw [← htake, List.getElem?_take] at hu
          split at hu
          · simpa using hu
          · cases hu
        have hr := run_append_grow (P := P) w t ty e i z ht hi hz ⟨g, 0, none⟩ n cap xs hrow.1 hreads ⟨b, o, none⟩ m c news hl hnews (by omega) (by omega) (growslice_fits (by omega) hbytes)
        obtain ⟨H', hg1, hg2⟩ := grown xs cap rfl (hH.right)
        exact ⟨_, _, H', hr, hg1, hg2, (Grew.refl w).drew.alloc _⟩

/-- that law at a plain region's list -/
theorem wpList_append_row {ops : Array Oper} {rest : List Oper} {o : Oper} {a : Act} {Q : Exit → Act → World → Prop} (hgd : o.guard = none) (s x : Operand) (t : TypeId)
    (ho : o.op = .call { callee := .builtin .append, args := #[s, x], argTypes := #[t, t] })
    (i : TypeInfo) (z : Value) (bytes : Nat) (ht : P.underlying t = some (.slice e)) (hi : P.info? e = some i) (hz : i.zero = some z)
    (hsize : i.size = size) (hby : i.bytes = bytes) (hzs : z.cells.size = size) (hsz : 0 < size)
    (hs : a.eval s = v) {u : Value} (hx : a.eval x = u) (hrow : IsRow e size v n xs H) (hH : Holds w (H ++ Fr)) {m : Nat} {news : List Value} (hsrc : ReadsAt w size u m news) (h1 : ∀ x ∈ news, x.oneCell' = true)
    (h63 : n + m ≤ maxLen) (hbytes : (n + m) * bytes ≤ 140737488355328)
    (h : ∀ A' c' w' H', IsRow e size (.slice A' (n + m) c') (n + m) (xs ++ news) H' → Holds w' (H' ++ Fr) → Grew w w' → wpList P ops Q rest (a.put o.dst (.slice A' (n + m) c')) w') : wpList P ops Q (o :: rest) a w := by
  refine wpList_plain hgd fun K hK => ?_
  obtain ⟨v', w', H', hr, h2, h3, h4⟩ := run_append_row (P := P) t o.type i z bytes ht hi hz hsize hby hzs hsz hrow hH hsrc h1 h63 hbytes
  obtain ⟨A', c', rfl⟩ := h2.val
  unfold Oper.wp execOp
  simp only [ho, resolve, invoke, builtin, Sem.run_bind, Sem.run_pure, Result.andThen_ok, List.map_toArray, List.map_cons, List.map_nil, hs, hx, hr]
  exact hK _ _ (h A' c' w' H' h2 h3 h4)

/-- that law as a step of a region that draws its order -/
theorem step_append_row {ops : Array Oper} {o : Oper} {a : Act} {K : Act → World → Prop} {Q : Exit → Act → World → Prop} {E : Prop} (hgd : o.guard = none) (s x : Operand) (t : TypeId)
    (ho : o.op = .call { callee := .builtin .append, args := #[s, x], argTypes := #[t, t] })
    (i : TypeInfo) (z : Value) (bytes : Nat) (ht : P.underlying t = some (.slice e)) (hi : P.info? e = some i) (hz : i.zero = some z)
    (hsize : i.size = size) (hby : i.bytes = bytes) (hzs : z.cells.size = size) (hsz : 0 < size)
    (hs : a.eval s = v) {u : Value} (hx : a.eval x = u) (hrow : IsRow e size v n xs H) (hH : Holds w (H ++ Fr)) {m : Nat} {news : List Value} (hsrc : ReadsAt w size u m news) (h1 : ∀ x ∈ news, x.oneCell' = true)
    (h63 : n + m ≤ maxLen) (hbytes : (n + m) * bytes ≤ 140737488355328)
    (h : ∀ A' c' w' H', IsRow e size (.slice A' (n + m) c') (n + m) (xs ++ news) H' → Holds w' (H' ++ Fr) → Grew w w' → K (a.put o.dst (.slice A' (n + m) c')) w') :
    if Region.wanted o (yielded ops a.tmps) = true then Oper.wp P o a w K Q else E := by
  have hw : Region.wanted o (yielded ops a.tmps) = true := by simp [Region.wanted, hgd]
  rw [if_pos hw]
  obtain ⟨v', w', H', hr, h2, h3, h4⟩ := run_append_row (P := P) t o.type i z bytes ht hi hz hsize hby hzs hsz hrow hH hsrc h1 h63 hbytes
  obtain ⟨A', c', rfl⟩ := h2.val
  unfold Oper.wp execOp
  simp only [ho, resolve, invoke, builtin, Sem.run_bind, Sem.run_pure, Result.andThen_ok, List.map_toArray, List.map_cons, List.map_nil, hs, hx, hr]
  exact h A' c' w' H' h2 h3 h4
end

end Go.Proofs.Ytinfbpldgobmfaa
