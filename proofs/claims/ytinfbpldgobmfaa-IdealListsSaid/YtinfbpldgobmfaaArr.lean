/-
  Slices whose elements own memory of their own: 'Rows2 R e size v xs H': the slice value v has the elements xs, each by R. Opening at an index, and closing again. No program in sight.
-/
import Derived.Test.YtinfbpldgobmfaaRow
namespace Go.Proofs.Ytinfbpldgobmfaa
open Go.RowKit

/-- what is known of a slice's type -/
structure SlT (P : Program) (t e : TypeId) (size bytes : Nat) (z : Value) : Prop where
  under : P.underlying t = some (.slice e)
  info : ∃ i, P.info? e = some i ∧ i.zero = some z ∧ i.size = size ∧ i.bytes = bytes
  cells : z.cells.size = size
  pos : 0 < size

theorem SlT.mk' {P : Program} {t e : TypeId} {size bytes : Nat} {z : Value} (h : P.underlying t = some (.slice e)) (hi : (P.info? e).map (fun i => (i.zero, i.size, i.bytes)) = some (some z, size, bytes))
    (hc : z.cells.size = size) (hp : 0 < size) : SlT P t e size bytes z := by
  refine ⟨h, ?_, hc, hp⟩
  cases hq : P.info? e with
  | none => simp [hq] at hi
  | some i =>
    simp only [hq, Option.map_some, Option.some.injEq, Prod.mk.injEq] at hi
    exact ⟨i, rfl, hi.1, hi.2.1, hi.2.2⟩

theorem flat_len {size : Nat} : ∀ (l : List (List Value)), (∀ x, x ∈ l → x.length = size) → l.flatten.length = l.length * size
  | [], _ => by simp
  | a :: l, h => by
    simp only [List.flatten_cons, List.length_append, List.length_cons, flat_len l (fun x hx => h x (List.mem_cons_of_mem _ hx)), h a (List.mem_cons_self), Nat.add_mul]
    omega
theorem flat_get {size : Nat} : ∀ (l : List (List Value)), (∀ x, x ∈ l → x.length = size) → ∀ (i j : Nat) (x : List Value), l[i]? = some x → j < size → l.flatten[i * size + j]? = x[j]?
  | [], _, i, j, x, hx, _ => by simp at hx
  | a :: l, h, 0, j, x, hx, hj => by
    simp only [List.getElem?_cons_zero, Option.some.injEq] at hx
    subst hx
    have ha := h a (List.mem_cons_self)
    rw [List.flatten_cons, Nat.zero_mul, Nat.zero_add, List.getElem?_append_left (by omega)]
  | a :: l, h, i + 1, j, x, hx, hj => by
    simp only [List.getElem?_cons_succ] at hx
    have ha := h a (List.mem_cons_self)
    rw [List.flatten_cons, List.getElem?_append_right (by rw [ha, Nat.add_mul]; omega)]
    rw [← flat_get l (fun x hx => h x (List.mem_cons_of_mem _ hx)) i j x hx hj]
    congr 1
    rw [ha, Nat.add_mul]; omega
theorem flat_set {size : Nat} : ∀ (l : List (List Value)), (∀ x, x ∈ l → x.length = size) → ∀ (i j : Nat) (x : List Value) (u : Value), l[i]? = some x → j < size → l.flatten.set (i * size + j) u = (l.set i (x.set j u)).flatten
  | [], _, i, j, x, u, hx, _ => by simp at hx
  | a :: l, h, 0, j, x, u, hx, hj => by
    simp only [List.getElem?_cons_zero, Option.some.injEq] at hx
    subst hx
    have ha := h a (List.mem_cons_self)
    rw [List.flatten_cons, Nat.zero_mul, Nat.zero_add, List.set_append_left _ _ (by omega)]
    simp
  | a :: l, h, i + 1, j, x, u, hx, hj => by
    simp only [List.getElem?_cons_succ] at hx
    have ha := h a (List.mem_cons_self)
    rw [List.flatten_cons, List.set_append_right _ _ (by rw [ha, Nat.add_mul]; omega)]
    have e : (i + 1) * size + j - a.length = i * size + j := by rw [ha, Nat.add_mul]; omega
    rw [e, flat_set l (fun x hx => h x (List.mem_cons_of_mem _ hx)) i j x u hx hj]
    simp

theorem flatten_split {α : Type} : ∀ (l : List (List α)) (i : Nat) (x : List α), l[i]? = some x → l.flatten = (l.take i).flatten ++ (x ++ (l.drop (i + 1)).flatten)
  | [], i, x, h => by simp at h
  | a :: l, 0, x, h => by
    simp only [List.getElem?_cons_zero, Option.some.injEq] at h
    subst h; simp
  | a :: l, i + 1, x, h => by
    simp only [List.getElem?_cons_succ] at h
    simp only [List.flatten_cons, List.take_succ_cons, List.drop_succ_cons, List.append_assoc, flatten_split l i x h]
theorem flatten_set_split {α : Type} : ∀ (l : List (List α)) (i : Nat) (y : List α), i < l.length → (l.set i y).flatten = (l.take i).flatten ++ (y ++ (l.drop (i + 1)).flatten)
  | [], i, y, h => by simp at h
  | a :: l, 0, y, h => by simp
  | a :: l, i + 1, y, h => by
    simp only [List.length_cons] at h
    simp only [List.set_cons_succ, List.flatten_cons, List.take_succ_cons, List.drop_succ_cons, List.append_assoc, flatten_set_split l i y (by omega)]

/-- a slice whose elements own memory -/
def Rows2 {α : Type} (R : List Value → α → HL → Prop) (e : TypeId) (size : Nat) (v : Value) (xs : List α) (H : HL) : Prop :=
  ∃ (vss : List (List Value)) (H0 : HL) (Hs : List HL), IsRow e size v xs.length vss.flatten H0 ∧ vss.length = xs.length ∧ Hs.length = xs.length ∧ (∀ c, c ∈ vss → c.length = size) ∧
    (∀ (i : Nat) (c : List Value) (x : α) (h : HL), vss[i]? = some c → xs[i]? = some x → Hs[i]? = some h → R c x h) ∧ H = H0 ++ Hs.flatten

section
variable {α : Type} {R : List Value → α → HL → Prop} {e : TypeId} {size : Nat} {v : Value} {xs : List α} {H Fr : HL} {w : World}

theorem Rows2.nil (R : List Value → α → HL → Prop) (e : TypeId) (size : Nat) : Rows2 R e size (.slice none 0 0) [] [] :=
  ⟨[], [], [], IsRow.nil e size, rfl, rfl, by simp, by simp, by simp⟩

/-- one element is opened: its cells, and what it owns; and how it is closed again -/
theorem Rows2.open_ (h : Rows2 R e size v xs H) (hH : Holds w (H ++ Fr)) {i : Nat} {x : α} (hx : xs[i]? = some x) :
    ∃ g cap c Hi Hr, v = .slice (some ⟨g, 0, none⟩) xs.length cap ∧ xs.length ≤ cap ∧ cap ≤ maxLen ∧ i < xs.length ∧ c.length = size ∧ R c x Hi ∧
      (∀ j, j < size → w.cell? ⟨g, i * size + j, none⟩ = c[j]? ∧ w.frozen? ⟨g, i * size + j, none⟩ = false) ∧
      (∃ cs fz, (g, Obj.cells cs e fz) ∈ Hr ∧ okfz fz cs.size ∧ i * size + size ≤ cs.size) ∧ g < w.heap.size ∧ Holds w (Hi ++ (Hr ++ Fr)) ∧
      (∀ w' x' Hi', R c x' Hi' → Holds w' (Hi' ++ (Hr ++ Fr)) → ∃ H', Rows2 R e size v (xs.set i x') H' ∧ Holds w' (H' ++ Fr)) ∧
      (∀ w' j u x' Hi', j < size → R (c.set j u) x' Hi' → Holds w' (Hi' ++ (Hr ++ Fr)) → ∃ H', Rows2 R e size v (xs.set i x') H' ∧ Holds (w'.setCell ⟨g, i * size + j, none⟩ u) (H' ++ Fr)) := by
  obtain ⟨vss, H0, Hs, hrow, hl1, hl2, hsz, hR, rfl⟩ := h
  have hi : i < xs.length := (List.getElem?_eq_some_iff.1 hx).1
  have hc : vss[i]? = some (vss[i]'(by omega)) := List.getElem?_eq_getElem (by omega)
  have hh : Hs[i]? = some (Hs[i]'(by omega)) := List.getElem?_eq_getElem (by omega)
  generalize hc' : vss[i]'(by omega) = c at hc
  generalize hh' : Hs[i]'(by omega) = Hi at hh
  have hcl : c.length = size := hsz c (List.mem_of_getElem? hc)
  obtain ⟨hl0, hv⟩ := hrow
  rcases hv with ⟨rfl, h0, _⟩ | ⟨g, cap, cur, fz, rfl, hn, hcm, hcs, htake, hfz, rfl⟩
  · omega
  have hflat := flatten_split Hs i Hi hh
  have hbd : ∀ j, j < size → i * size + j < xs.length * size := by
    intro j hj
    have : (i + 1) * size ≤ xs.length * size := Nat.mul_le_mul_right _ hi
    rw [Nat.add_mul] at this; omega
  have hcap : xs.length * size ≤ cap * size := Nat.mul_le_mul_right _ hn
  have hget : ∀ j, j < size → cur[i * size + j]? = c[j]? := by
    intro j hj
    rw [← flat_get vss hsz i j c hc hj, ← htake, List.getElem?_take, if_pos (hbd j hj)]
    simp
  refine ⟨g, cap, c, Hi, (g, .cells cur e fz) :: ((Hs.take i).flatten ++ (Hs.drop (i + 1)).flatten), rfl, hn, hcm, hi, hcl, hR i c x Hi hc hx hh, fun j hj => ⟨?_, ?_⟩, ⟨cur, fz, by simp, hfz, ?_⟩, ?_, ?_, ?_, ?_⟩
  · rw [hH.cell (t := e) (cs := cur) (fz := fz) (by simp)]; exact hget j hj
  · exact frozen_of_block (t := e) (cs := cur) (fz := fz) (hH.get (by simp)) hfz (by have := hbd j hj; omega)
  · have : (i + 1) * size ≤ xs.length * size := Nat.mul_le_mul_right _ hi
    rw [Nat.add_mul] at this; omega
  · exact hH.lt (p := (g, .cells cur e fz)) (by simp)
  · refine hH.sub ?_ ?_
    · intro p hp
      rw [hflat]
      simp only [List.mem_append, List.mem_cons] at hp ⊢
      rcases hp with h | (h | h | h) | h <;> simp [h]
    · intro b
      rw [hflat]
      simp only [keyc_append, keyc_cons]
      omega
  · intro w' x' Hi' hR' hH'
    refine ⟨_, ⟨vss, [(g, .cells cur e fz)], Hs.set i Hi', ⟨by simpa using hl0, .inr ⟨g, cap, cur, fz, by simp, by simpa using hn, hcm, hcs, by simpa using htake, hfz, rfl⟩⟩, by simpa using hl1, by simpa using hl2, hsz, ?_, rfl⟩, ?_⟩
    · intro k c2 x2 h2 e1 e2 e3
      by_cases hk : k = i
      · subst hk
        rw [hc] at e1
        rw [List.getElem?_set_self (by omega)] at e2 e3
        cases e1; cases e2; cases e3
        exact hR'
      · rw [List.getElem?_set_ne (by omega)] at e2 e3
        exact hR k c2 x2 h2 e1 e2 e3
    · refine hH'.sub ?_ ?_
      · intro p hp
        rw [flatten_set_split Hs i Hi' (by omega)] at hp
        simp only [List.mem_append, List.mem_cons, List.not_mem_nil, or_false] at hp ⊢
        rcases hp with (h | h | h | h) | h <;> simp [h]
      · intro b
        rw [flatten_set_split Hs i Hi' (by omega)]
        simp only [keyc_append, keyc_cons, keyc_nil]
        omega
  · intro w' j u x' Hi' hj hR' hH'
    have hoff := hbd j hj
    refine ⟨_, ⟨vss.set i (c.set j u), [(g, .cells (cur.setIfInBounds (i * size + j) u) e fz)], Hs.set i Hi', ⟨?_, .inr ⟨g, cap, cur.setIfInBounds (i * size + j) u, fz, by simp, by simpa using hn, hcm, by simpa using hcs, ?_, by simpa using hfz, rfl⟩⟩, by simpa using hl1, by simpa using hl2, ?_, ?_, rfl⟩, ?_⟩
    · rw [← flat_set vss hsz i j c u hc hj]; simpa using hl0
    · rw [← flat_set vss hsz i j c u hc hj, ← htake, Array.toList_setIfInBounds, List.length_set, List.take_set]
    · intro c2 hc2
      rcases List.mem_or_eq_of_mem_set hc2 with h | h
      · exact hsz c2 h
      · rw [h]; simpa using hcl
    · intro k c2 x2 h2 e1 e2 e3
      by_cases hk : k = i
      · subst hk
        rw [List.getElem?_set_self (by omega)] at e1 e2 e3
        cases e1; cases e2; cases e3
        exact hR'
      · rw [List.getElem?_set_ne (by omega)] at e1 e2 e3
        exact hR k c2 x2 h2 e1 e2 e3
    · have h1 : Holds w' ((g, .cells cur e fz) :: ((Hs.take i).flatten ++ (Hs.drop (i + 1)).flatten ++ Hi' ++ Fr)) := by
        refine hH'.sub ?_ ?_
        · intro p hp
          simp only [List.mem_append, List.mem_cons] at hp ⊢
          rcases hp with h | (((h | h) | h) | h) <;> simp [h]
        · intro b; simp only [keyc_append, keyc_cons]; omega
      refine (h1.set' (i * size + j) u).sub ?_ ?_
      · intro p hp
        rw [flatten_set_split Hs i Hi' (by omega)] at hp
        simp only [List.mem_append, List.mem_cons, List.not_mem_nil, or_false] at hp ⊢
        rcases hp with (h | h | h | h) | h <;> simp [h]
      · intro b
        rw [flatten_set_split Hs i Hi' (by omega)]
        simp only [keyc_append, keyc_cons, keyc_nil]
        omega

/-- the slice's value, whatever it has -/
theorem Rows2.val (h : Rows2 R e size v xs H) : ∃ A c, v = .slice A xs.length c ∧ xs.length ≤ c ∧ c ≤ maxLen := by
  obtain ⟨vss, H0, Hs, hrow, _⟩ := h
  rcases hrow.2 with ⟨rfl, h0, _⟩ | ⟨g, cap, cur, fz, rfl, hn, hc, _⟩
  · exact ⟨none, 0, by rw [h0], by omega, by simp [maxLen]⟩
  · exact ⟨_, _, rfl, hn, hc⟩

/-- one element more: by the law on append over the outer row -/
theorem Rows2.parts (h : Rows2 R e size v xs H) (hH : Holds w (H ++ Fr)) : ∃ (cells : List Value) (H0 H1 : HL), IsRow e size v xs.length cells H0 ∧ Holds w (H0 ++ (H1 ++ Fr)) ∧
      (∀ w' v' H0' c x Hx, c.length = size → R c x Hx → IsRow e size v' (xs.length + 1) (cells ++ c) H0' → Holds w' (H0' ++ (H1 ++ (Hx ++ Fr))) → ∃ H', Rows2 R e size v' (xs ++ [x]) H' ∧ Holds w' (H' ++ Fr)) := by
  obtain ⟨vss, H0, Hs, hrow, hl1, hl2, hsz, hR, rfl⟩ := h
  refine ⟨vss.flatten, H0, Hs.flatten, hrow, hH.assoc, ?_⟩
  intro w' v' H0' c x Hx hcl hRx hrow' hH'
  refine ⟨_, ⟨vss ++ [c], H0', Hs ++ [Hx], by simpa using hrow', by simp [hl1], by simp [hl2], ?_, ?_, rfl⟩, ?_⟩
  · intro c2 h2
    rcases List.mem_append.1 h2 with h | h
    · exact hsz c2 h
    · rw [List.mem_singleton.1 h]; exact hcl
  · intro i c2 x2 h2 e1 e2 e3
    by_cases hi : i < xs.length
    · rw [List.getElem?_append_left (by omega)] at e1 e2 e3
      exact hR i c2 x2 h2 e1 e2 e3
    · rw [List.getElem?_append_right (by omega)] at e1 e2 e3
      have hk : i - xs.length = 0 := by
        rcases Nat.eq_zero_or_pos (i - xs.length) with h | h
        · exact h
        · rw [List.getElem?_eq_none (by simp; omega)] at e2; cases e2
      rw [hl1, hk] at e1; rw [hk] at e2; rw [hl2, hk] at e3
      simp only [List.getElem?_cons_zero, Option.some.injEq] at e1 e2 e3
      subst e1; subst e2; subst e3
      exact hRx
  · simpa [List.append_assoc] using hH'
end

section
variable {P : Program} {w : World} {e : TypeId} {size bytes n : Nat} {z v : Value} {xs : List Value} {H Fr : HL} {t : TypeId}

theorem Holds.alloc' (h : Holds w H) (o : Obj) : Holds (w.alloc o) H := Holds.right (A := [(w.heap.size, o)]) (h.alloc o)
theorem ReadsAt.one {x : Value} : ReadsAt (w.alloc (.cells #[x] e)) 1 (.slice (some ⟨w.heap.size, 0, none⟩) 1 1) 1 [x] :=
  ReadsAt.of_block (heap_alloc_new w _) [x] rfl (Nat.le_refl _) (by simp [maxLen]) (fun j u hu => by simpa using hu)
theorem ReadsAt.many {cs : Array Value} (hs : cs.size = n * size) (hn : n ≤ maxLen) : ReadsAt (w.alloc (.cells cs e)) size (.slice (some ⟨w.heap.size, 0, none⟩) n n) n cs.toList :=
  ReadsAt.of_block (heap_alloc_new w _) cs.toList (by simpa using hs) (Nat.le_refl _) hn (fun j u hu => by simpa using hu)

/-- the law on append, by what is known of the slice's type -/
theorem wpList_append_T {ops : Array Oper} {rest : List Oper} {o : Oper} {a : Act} {Q : Exit → Act → World → Prop} (hT : SlT P t e size bytes z) (hgd : o.guard = none) (s x : Operand)
    (ho : o.op = .call { callee := .builtin .append, args := #[s, x], argTypes := #[t, t] })
    (hs : a.eval s = v) {u : Value} (hx : a.eval x = u) (hrow : IsRow e size v n xs H) (hH : Holds w (H ++ Fr)) {m : Nat} {news : List Value} (hsrc : ReadsAt w size u m news) (h1 : ∀ x ∈ news, x.oneCell' = true)
    (h63 : n + m ≤ maxLen) (hbytes : (n + m) * bytes ≤ 140737488355328)
    (h : ∀ A' c' w' H', IsRow e size (.slice A' (n + m) c') (n + m) (xs ++ news) H' → Holds w' (H' ++ Fr) → Grew w w' → wpList P ops Q rest (a.put o.dst (.slice A' (n + m) c')) w') : wpList P ops Q (o :: rest) a w := by
  obtain ⟨i, hi, hz, hsz, hby⟩ := hT.info
  exact wpList_append_row hgd s x t ho i z bytes hT.under hi hz hsz hby hT.cells hT.pos hs hx hrow hH hsrc h1 h63 hbytes h
theorem step_append_T {ops : Array Oper} {o : Oper} {a : Act} {K : Act → World → Prop} {Q : Exit → Act → World → Prop} {E : Prop} (hT : SlT P t e size bytes z) (hgd : o.guard = none) (s x : Operand)
    (ho : o.op = .call { callee := .builtin .append, args := #[s, x], argTypes := #[t, t] })
    (hs : a.eval s = v) {u : Value} (hx : a.eval x = u) (hrow : IsRow e size v n xs H) (hH : Holds w (H ++ Fr)) {m : Nat} {news : List Value} (hsrc : ReadsAt w size u m news) (h1 : ∀ x ∈ news, x.oneCell' = true)
    (h63 : n + m ≤ maxLen) (hbytes : (n + m) * bytes ≤ 140737488355328)
    (h : ∀ A' c' w' H', IsRow e size (.slice A' (n + m) c') (n + m) (xs ++ news) H' → Holds w' (H' ++ Fr) → Grew w w' → K (a.put o.dst (.slice A' (n + m) c')) w') :
    if Region.wanted o (yielded ops a.tmps) = true then Oper.wp P o a w K Q else E := by
  obtain ⟨i, hi, hz, hsz, hby⟩ := hT.info
  exact step_append_row hgd s x t ho i z bytes hT.under hi hz hsz hby hT.cells hT.pos hs hx hrow hH hsrc h1 h63 hbytes h
/-- append where there is room: in place -/
theorem wpList_append_room {ops : Array Oper} {rest : List Oper} {o : Oper} {a : Act} {Q : Exit → Act → World → Prop} (hT : SlT P t e size bytes z) (hgd : o.guard = none) (s x : Operand)
    (ho : o.op = .call { callee := .builtin .append, args := #[s, x], argTypes := #[t, t] }) {g cap : Nat} {cur : Array Value} {fz : Nat × Nat}
    (hs : a.eval s = .slice (some ⟨g, 0, none⟩) n cap) {u : Value} (hx : a.eval x = u) (hH : Holds w ((g, .cells cur e fz) :: Fr)) (hf : okfz fz cur.size) {m : Nat} {news : List Value} (hsrc : ReadsAt w size u m news) (h1 : ∀ x ∈ news, x.oneCell' = true)
    (hroom : n + m ≤ cap) (hcs : cap * size ≤ cur.size)
    (h : ∀ w' cs', cs'.size = cur.size → cs' = (cur.toList.take (n * size) ++ news ++ cur.toList.drop (n * size + news.length)).toArray → Holds w' ((g, .cells cs' e fz) :: Fr) → Grew w w' → wpList P ops Q rest (a.put o.dst (.slice (some ⟨g, 0, none⟩) (n + m) cap)) w') : wpList P ops Q (o :: rest) a w := by
  refine wpList_plain hgd fun K hK => ?_
  obtain ⟨i, hi, hz, hsz, hby⟩ := hT.info
  subst hsz
  obtain ⟨hl, A, c, rfl, hmc, hcm, hsr⟩ := hsrc
  have hfit : n * i.size + news.length ≤ cur.size := by
    rw [hl, ← Nat.add_mul]; exact Nat.le_trans (Nat.mul_le_mul_right _ hroom) hcs
  have hg : w.heap[g]? = some (.cells cur e fz) := hH.get (by simp)
  have hfc : (Builtin.firstCells i.size m (.slice A m c)).run P w = .ok news.toArray w := by
    rcases Nat.eq_zero_or_pos m with h0 | h0
    · subst h0
      have hn0 : news = [] := List.eq_nil_of_length_eq_zero (by simpa using hl)
      subst hn0
      cases A <;> simp [Builtin.firstCells, loadCells, loadCellsFrom]
    · obtain ⟨b, o, rfl, hnews0⟩ := hsr h0
      exact run_firstCells_some (P := P) w i.size m ⟨b, o, none⟩ m c news hl (fun j u hu => by rw [addr_add_lit]; exact hnews0 j u hu)
  have hst := storeCells_fz (P := P) g (n * i.size) e fz news 0 cur w hg hf (by simpa using hfit) h1
  simp only [Nat.add_zero] at hst
  have hr : (Builtin.append_ #[t, t] o.type #[.slice (some ⟨g, 0, none⟩) n cap, .slice A m c]).run P w =
      .ok (.slice (some ⟨g, 0, none⟩) (n + m) cap) (w.setRow g (cur.toList.take (n * i.size) ++ news ++ cur.toList.drop (n * i.size + news.length)).toArray) := by
    simp [Builtin.append_, run_underlying hT.under, sizeOf, typeInfo, hi, Builtin.lenOf, hroom, hfc, Addr.add_lit, hst]
  unfold Oper.wp execOp
  simp only [ho, resolve, invoke, builtin, Sem.run_bind, Sem.run_pure, Result.andThen_ok, List.map_toArray, List.map_cons, List.map_nil, hs, hx, hr]
  exact hK _ _ (h _ _ (by simp only [List.size_toArray, List.length_append, List.length_take, List.length_drop, Array.length_toList]; omega) rfl (Holds.setRow' hH _) ((Grew.refl w).setRow _ _))
theorem ReadsAt.alloc {u : Value} {m : Nat} {news : List Value} (h : ReadsAt w size u m news) (o : Obj) : ReadsAt (w.alloc o) size u m news :=
  h.keep fun p x hx => by rw [World.cell?_alloc_lt w o p (World.block_lt_of_cell? w p hx)]; exact hx
end

end Go.Proofs.Ytinfbpldgobmfaa
