/-
  sculleryref13: a table as one slice of entries.
-/
import Derived.Test.YtnophehonkojaaaTbQ
namespace Go.Proofs.Ytnophehonkojaaa
open Go.RowKit
set_option linter.unusedSimpArgs false
set_option linter.unusedVariables false

def hitE (L : List Ent) (s : Nat) (a : Int) : Bool := match L[s]? with | some e => decide (e.addr = a) | none => false
section
variable {L : List Ent} {s : Nat} {a : Int}
theorem CutAt.take (h : CutAt L s a) : ∀ x ∈ L.take s, x.addr < a := fun x hx => by
  obtain ⟨i, hi, rfl⟩ := List.mem_iff_getElem.1 hx
  rw [List.length_take] at hi
  rw [List.getElem_take]
  exact (h i (by omega)).1 (by omega)
theorem CutAt.drop (h : CutAt L s a) : ∀ x ∈ L.drop s, a ≤ x.addr := fun x hx => by
  obtain ⟨i, hi, rfl⟩ := List.mem_iff_getElem.1 hx
  rw [List.length_drop] at hi
  rw [List.getElem_drop]
  have := mt (h (s + i) (by omega)).2 (by omega)
  omega
theorem CutAt.hit (h : CutAt L s a) (hi : IncE L) (hh : hitE L s a = true) : ∃ hs : s < L.length, L[s].addr = a ∧ L = L.take s ++ L[s] :: L.drop (s + 1) ∧ (∀ x ∈ L.drop (s + 1), a < x.addr) := by
  unfold hitE at hh
  cases hx : L[s]? with
  | none => rw [hx] at hh; cases hh
  | some e =>
    rw [hx] at hh
    obtain ⟨hs, he⟩ := List.getElem?_eq_some_iff.1 hx
    have ha : L[s].addr = a := by rw [he]; exact of_decide_eq_true hh
    refine ⟨hs, ha, ?_, fun x hx => ?_⟩
    · conv => lhs; rw [← List.take_append_drop s L]
      rw [List.drop_eq_getElem_cons hs]
    · obtain ⟨i, hi2, rfl⟩ := List.mem_iff_getElem.1 hx
      rw [List.length_drop] at hi2
      rw [List.getElem_drop]
      have := List.pairwise_iff_getElem.1 hi s (s + 1 + i) hs (by omega) (by omega)
      omega
theorem CutAt.miss (h : CutAt L s a) (hi : IncE L) (hh : hitE L s a = false) : ∀ x ∈ L.drop s, a < x.addr := fun x hx => by
  have h1 := h.drop x hx
  rcases Int.lt_or_eq_of_le h1 with h2 | h2
  · exact h2
  · exfalso
    obtain ⟨i, hi2, rfl⟩ := List.mem_iff_getElem.1 hx
    rw [List.length_drop] at hi2
    rw [List.getElem_drop] at h2
    have hs : s < L.length := by omega
    have h3 := mt (h s hs).2 (by omega)
    have h4 : L[s].addr = a := by
      rcases Nat.eq_zero_or_pos i with h5 | h5
      · subst h5; simpa using h2.symm
      · have := List.pairwise_iff_getElem.1 hi s (s + i) hs (by omega) (by omega)
        omega
    unfold hitE at hh
    rw [List.getElem?_eq_getElem hs] at hh
    exact absurd h4 (of_decide_eq_false hh)
theorem find_hit (h : CutAt L s a) (hi : IncE L) (hh : hitE L s a = true) : findE a L = L[s]? := by
  obtain ⟨hs, ha, _⟩ := h.hit hi hh
  rw [List.getElem?_eq_getElem hs, ← ha]
  exact findE_mem hi (List.getElem_mem hs)
theorem find_miss (h : CutAt L s a) (hi : IncE L) (hh : hitE L s a = false) : findE a L = none := by
  refine findE_none.2 fun x hx => ?_
  rw [← List.take_append_drop s L, List.mem_append] at hx
  rcases hx with hx | hx
  · have := h.take x hx; omega
  · have := h.miss hi hh x hx; omega
theorem filter_all {p : Ent → Bool} {l : List Ent} (h : ∀ x ∈ l, p x = true) : l.filter p = l := List.filter_eq_self.2 h
theorem filter_none {p : Ent → Bool} {l : List Ent} (h : ∀ x ∈ l, p x = false) : l.filter p = [] := List.filter_eq_nil_iff.2 fun x hx => by rw [h x hx]; exact Bool.false_ne_true
theorem put_hit {e : Ent} (h : CutAt L s e.addr) (hi : IncE L) (hh : hitE L s e.addr = true) : putT L e = L.set s e := by
  obtain ⟨hs, ha, hL, hgt⟩ := h.hit hi hh
  have hset : L.set s e = L.take s ++ e :: L.drop (s + 1) := by rw [List.set_eq_take_append_cons_drop, if_pos hs]
  rw [hset]
  have h1 : L.filter (fun x => decide (x.addr < e.addr)) = L.take s := by
    conv => lhs; rw [hL]
    rw [List.filter_append, filter_all (fun x hx => decide_eq_true (h.take x hx)), filter_none, List.append_nil]
    intro x hx
    rcases List.mem_cons.1 hx with rfl | hx
    · exact decide_eq_false (by omega)
    · have := hgt x hx; exact decide_eq_false (by omega)
  have h2 : L.filter (fun x => decide (e.addr < x.addr)) = L.drop (s + 1) := by
    conv => lhs; rw [hL]
    rw [List.filter_append, filter_none (fun x hx => decide_eq_false (by have := h.take x hx; omega)), List.nil_append, List.filter_cons_of_neg (by simp; omega), filter_all]
    exact fun x hx => decide_eq_true (hgt x hx)
  unfold putT
  rw [h1, h2]
theorem put_miss {e : Ent} (h : CutAt L s e.addr) (hi : IncE L) (hh : hitE L s e.addr = false) : putT L e = L.take s ++ e :: L.drop s := by
  have hm := h.miss hi hh
  have h1 : L.filter (fun x => decide (x.addr < e.addr)) = L.take s := by
    conv => lhs; rw [← List.take_append_drop s L]
    rw [List.filter_append, filter_all (fun x hx => decide_eq_true (h.take x hx)), filter_none, List.append_nil]
    exact fun x hx => decide_eq_false (by have := hm x hx; omega)
  have h2 : L.filter (fun x => decide (e.addr < x.addr)) = L.drop s := by
    conv => lhs; rw [← List.take_append_drop s L]
    rw [List.filter_append, filter_none (fun x hx => decide_eq_false (by have := h.take x hx; omega)), List.nil_append, filter_all]
    exact fun x hx => decide_eq_true (hm x hx)
  unfold putT
  rw [h1, h2]
theorem drop_hit (h : CutAt L s a) (hi : IncE L) (hh : hitE L s a = true) : dropT L a = L.take s ++ L.drop (s + 1) := by
  obtain ⟨hs, ha, hL, hgt⟩ := h.hit hi hh
  unfold dropT
  conv => lhs; rw [hL]
  rw [List.filter_append, filter_all (fun x hx => decide_eq_true (by have := h.take x hx; omega)), List.filter_cons_of_neg (by simpa using ha), filter_all]
  exact fun x hx => decide_eq_true (by have := hgt x hx; omega)
theorem drop_miss (h : CutAt L s a) (hi : IncE L) (hh : hitE L s a = false) : dropT L a = L := by
  have := findE_none.1 (find_miss h hi hh)
  exact filter_all fun x hx => decide_eq_true (this x hx)
end
theorem fromL_stop {L : List Ent} {a many : Int} {d : Bool} {k : Nat} (hl : ¬ ((fromL (L.take k) a many d).length : Int) < many) : fromL L a many d = fromL (L.take k) a many d := by
  unfold fromL at *
  rw [List.length_take] at hl
  conv => lhs; rw [← List.take_append_drop k L]
  rw [List.filter_append, List.take_append_of_le_length (by omega)]

/-- a table of the document -/
def IsRT (v : Value) (L : List Ent) (H : HL) : Prop := IncE L ∧ (∀ e ∈ L, 0 ≤ e.addr) ∧ L.length ≤ 200000 ∧ ∃ b sv Hs, v = .pointer (some ⟨b, 0, none⟩) ∧ IsEnts sv L Hs ∧ H = (b, .cells #[sv] 41) :: Hs
theorem IsRT.ptr {v : Value} {L : List Ent} {H : HL} (h : IsRT v L H) : ∃ b, v = .pointer (some ⟨b, 0, none⟩) := by obtain ⟨_, _, _, b, _, _, h, _⟩ := h; exact ⟨b, h⟩
theorem IsRT.inc {v : Value} {L : List Ent} {H : HL} (h : IsRT v L H) : IncE L := h.1
theorem IsRT.le {v : Value} {L : List Ent} {H : HL} (h : IsRT v L H) : L.length ≤ 200000 := h.2.2.1
/-- its slice, as it is read -/
theorem IsRT.look {v : Value} {L : List Ent} {H Fr : HL} {w : World} (h : IsRT v L H) (hH : Holds w (H ++ Fr)) : ∃ b A c, v = .pointer (some ⟨b, 0, none⟩) ∧ w.cell? ⟨b, 0, none⟩ = some (.slice A L.length c) ∧ L.length ≤ c ∧ c ≤ maxLen ∧ EntsAt w (.slice A L.length c) L ∧
    (0 < L.length → ∃ bb oo, A = some ⟨bb, oo, none⟩ ∧ ∀ i (hi : i < L.length), EntCells w bb (oo + i * 4) L[i]) := by
  obtain ⟨_, _, _, b, sv, Hs, rfl, hrow, rfl⟩ := h
  obtain ⟨A, c, rfl⟩ := hrow.val
  have hat := hrow.at_ (w := w) (Fr := (b, .cells #[.slice A L.length c] 41) :: Fr) (Holds.swap (A := [_]) hH)
  obtain ⟨A', c', hv, h1, h2, h3⟩ := hat.cells
  injection hv with hv1 _ hv3
  subst hv1 hv3
  exact ⟨b, A, c, rfl, hH.hcell 0, h1, h2, hat, h3⟩

def AtTo (L : List Ent) (a : Int) (w : World) (i : Value) (wr : World) : Prop := ∃ (k q : Nat), k ≤ L.length ∧ i = .int .i64 k ∧ (∀ j (h : j < L.length), j < k → L[j].addr < a) ∧ wr = w.drewN q
def RetAt (L : List Ent) (a : Int) (w : World) (e : Ending) (w' : World) : Prop := (∃ s, s ≤ L.length ∧ CutAt L s a ∧ e = .returned (.tuple #[.int .i64 s, .bool (hitE L s a)])) ∧ ∃ n, w' = w.drewN n
set_option maxRecDepth 20000 in
set_option maxHeartbeats 1000000 in
theorem r13at_any (v : Value) (L : List Ent) (a : Int) (H Fr : HL) (w : World) (h : IsRT v L H) (hH : Holds w (H ++ Fr)) : Calls Try.prog 33 #[v, .int .u64 a] w (RetAt L a w) := by
  have hi := h.inc
  have hle := h.le
  obtain ⟨b, A, c, rfl, hc, hc1, hc2, hat, hce⟩ := h.look hH
  unfold maxLen at hc2
  have HI := Lib.hid hi
  have HC := Lib.hid hc
  have HCE := Lib.hid hce
  clear h hH hat hi hc hce
  obtain ⟨n, hn⟩ : ∃ n, n = L.length := ⟨_, rfl⟩
  have HN := Lib.hid hn
  rw [← hn] at hle HC hc1
  clear hn
  go_enter Try.func33, Try.ntmps33
  go_wp2_with fail
  go_loopw [6] (fun i wr => AtTo L a w i wr) (fun i _ => n - (intOf i).toNat)
  case atStart => exact ⟨0, 0, by omega, rfl, fun j _ h => by omega, rfl⟩
  case round =>
    obtain ⟨k, q, hk, rfl, hlt, rfl⟩ := hrel
    rw [← HN.out] at hk
    have HLT := Lib.hid hlt
    have hcell := HC.out
    clear hlt
    by_cases hkn : k < n
    · have hkL : k < L.length := by rw [← HN.out]; exact hkn
      obtain ⟨bb, oo, rfl, hcc⟩ := HCE.out (by rw [← HN.out]; omega)
      obtain ⟨d0, _⟩ := hcc k hkL
      have HX := Lib.hid (show L[k] = L[k] from rfl)
      clear hcc
      by_cases hx : L[k].addr < a
      · have HX1 : Hid (∀ j (h : j < L.length), j = k → L[j].addr < a) := Lib.hid (fun j h e => by subst e; exact hx)
        generalize hxa : L[k].addr = x at *
        have hdx : decide (x < a) = true := decide_eq_true hx
        clear hxa
        go_wp2_with fail
        go_roundw
        case rel =>
          refine ⟨k + 1, q, by rw [← HN.out]; omega, by go_num, fun j hj hjk => ?_, rfl⟩
          rcases Nat.lt_or_ge j k with h | h
          · exact HLT.out j hj h
          · exact HX1.out j hj (by omega)
        case measure => simp [intOf] <;> omega
      · have HCUT : Hid (CutAt L k a) := Lib.hid (by
          intro j hj
          refine ⟨fun h => HLT.out j hj h, fun h => ?_⟩
          rcases Nat.lt_or_ge j k with h2 | h2
          · exact h2
          · rcases Nat.eq_or_lt_of_le h2 with h3 | h3
            · subst h3; omega
            · have := List.pairwise_iff_getElem.1 HI.out k j hkL hj h3; omega)
        have hhit : hitE L k a = decide (L[k].addr = a) := by unfold hitE; rw [List.getElem?_eq_getElem hkL]
        have HHIT := Lib.hid hhit
        clear hhit HX
        generalize L[k].addr = x at *
        go_wp2_with fail
        go_upto_region 4 with fail
        refine Z_begin (fun wx => wx.cell? ⟨b, 0, none⟩ = some (.slice (some ⟨bb, oo, none⟩) n c) ∧ wx.cell? ⟨bb, oo + k * 4, none⟩ = some (.int .u64 x)) 22 (by kernel_rfl) (fun w1 hd => by obtain ⟨q, rfl⟩ := hd; exact ⟨hcell, d0⟩) (fun w1 hd hs => ?_)
        obtain ⟨nq, rfl⟩ := hd
        refine Z_takeD 0 (some 28) (v := ?_) rfl rfl (by kernel_rfl) (fun _ _ _ h => h) (by rfl) hs ?_ ?_
        rotate_left
        · intro wx hx; obtain ⟨s1, s2⟩ := hx; go_simp; try with_reducible rfl
        simp only [Act.put, List.setIfInBounds_toArray, List.set_cons_succ, List.set_cons_zero]
        refine Z_takeD 1 (some 29) (v := ?_) rfl rfl (by kernel_rfl) (fun _ _ _ h => h) (by rfl) hs ?_ ?_
        rotate_left
        · intro wx hx; obtain ⟨s1, s2⟩ := hx; go_simp; try with_reducible rfl
        simp only [Act.put, List.setIfInBounds_toArray, List.set_cons_succ, List.set_cons_zero]
        refine Z_takeD 2 (some 30) (v := ?_) rfl rfl (by kernel_rfl) (fun _ _ _ h => h) (by rfl) hs ?_ ?_
        rotate_left
        · intro wx hx; obtain ⟨s1, s2⟩ := hx; go_simp; try with_reducible rfl
        simp only [Act.put, List.setIfInBounds_toArray, List.set_cons_succ, List.set_cons_zero]
        refine Z_takeD 3 (some 31) (v := ?_) rfl rfl (by kernel_rfl) (fun _ _ _ h => h) (by rfl) hs ?_ ?_
        rotate_left
        · intro wx hx; obtain ⟨s1, s2⟩ := hx; go_simp; try with_reducible rfl
        simp only [Act.put, List.setIfInBounds_toArray, List.set_cons_succ, List.set_cons_zero]
        refine Z_takeD 4 (some 32) (v := ?_) rfl rfl (by kernel_rfl) (fun _ _ _ h => h) (by rfl) hs ?_ ?_
        rotate_left
        · intro wx hx; obtain ⟨s1, s2⟩ := hx; go_simp; try with_reducible rfl
        simp only [Act.put, List.setIfInBounds_toArray, List.set_cons_succ, List.set_cons_zero]
        refine Z_takeD 5 (some 33) (v := ?_) rfl rfl (by kernel_rfl) (fun _ _ _ h => h) (by rfl) hs ?_ ?_
        rotate_left
        · intro wx hx; obtain ⟨s1, s2⟩ := hx; go_simp; try with_reducible rfl
        simp only [Act.put, List.setIfInBounds_toArray, List.set_cons_succ, List.set_cons_zero]
        refine Z_takeD 6 (some 34) (v := ?_) rfl rfl (by kernel_rfl) (fun _ _ _ h => h) (by rfl) hs ?_ ?_
        rotate_left
        · intro wx hx; obtain ⟨s1, s2⟩ := hx; go_simp; try with_reducible rfl
        simp only [Act.put, List.setIfInBounds_toArray, List.set_cons_succ, List.set_cons_zero]
        refine Z_takeD 7 (some 35) (v := ?_) rfl rfl (by kernel_rfl) (fun _ _ _ h => h) (by rfl) hs ?_ ?_
        rotate_left
        · intro wx hx; obtain ⟨s1, s2⟩ := hx; go_simp; try with_reducible rfl
        simp only [Act.put, List.setIfInBounds_toArray, List.set_cons_succ, List.set_cons_zero]
        refine Z_takeD 8 (some 36) (v := ?_) rfl rfl (by kernel_rfl) (fun _ _ _ h => h) (by rfl) hs ?_ ?_
        rotate_left
        · intro wx hx; obtain ⟨s1, s2⟩ := hx; go_simp; try with_reducible rfl
        simp only [Act.put, List.setIfInBounds_toArray, List.set_cons_succ, List.set_cons_zero]
        refine Z_takeD 9 (some 37) (v := ?_) rfl rfl (by kernel_rfl) (fun _ _ _ h => h) (by rfl) hs ?_ ?_
        rotate_left
        · intro wx hx; obtain ⟨s1, s2⟩ := hx; go_simp; try with_reducible rfl
        simp only [Act.put, List.setIfInBounds_toArray, List.set_cons_succ, List.set_cons_zero]
        refine Z_takeD 10 (some 38) (v := ?_) rfl rfl (by kernel_rfl) (fun _ _ _ h => h) (by rfl) hs ?_ ?_
        rotate_left
        · intro wx hx; obtain ⟨s1, s2⟩ := hx; go_simp; try with_reducible rfl
        simp only [Act.put, List.setIfInBounds_toArray, List.set_cons_succ, List.set_cons_zero]
        refine Z_takeD 11 (some 39) (v := ?_) rfl rfl (by kernel_rfl) (fun _ _ _ h => h) (by rfl) hs ?_ ?_
        rotate_left
        · intro wx hx; obtain ⟨s1, s2⟩ := hx; go_simp; try with_reducible rfl
        simp only [Act.put, List.setIfInBounds_toArray, List.set_cons_succ, List.set_cons_zero]
        refine Z_takeD 12 (some 40) (v := ?_) rfl rfl (by kernel_rfl) (fun _ _ _ h => h) (by rfl) hs ?_ ?_
        rotate_left
        · intro wx hx; obtain ⟨s1, s2⟩ := hx; go_simp; try with_reducible rfl
        simp only [Act.put, List.setIfInBounds_toArray, List.set_cons_succ, List.set_cons_zero]
        refine Z_takeD 13 (some 41) (v := ?_) rfl rfl (by kernel_rfl) (fun _ _ _ h => h) (by rfl) hs ?_ ?_
        rotate_left
        · intro wx hx; obtain ⟨s1, s2⟩ := hx; go_simp; try with_reducible rfl
        simp only [Act.put, List.setIfInBounds_toArray, List.set_cons_succ, List.set_cons_zero]
        refine Z_takeD 14 (some 42) (v := ?_) rfl rfl (by kernel_rfl) (fun _ _ _ h => h) (by rfl) hs ?_ ?_
        rotate_left
        · intro wx hx; obtain ⟨s1, s2⟩ := hx; go_simp; try with_reducible rfl
        simp only [Act.put, List.setIfInBounds_toArray, List.set_cons_succ, List.set_cons_zero]
        refine Z_takeD 15 (some 43) (v := ?_) rfl rfl (by kernel_rfl) (fun _ _ _ h => h) (by rfl) hs ?_ ?_
        rotate_left
        · intro wx hx; obtain ⟨s1, s2⟩ := hx; go_simp; try with_reducible rfl
        simp only [Act.put, List.setIfInBounds_toArray, List.set_cons_succ, List.set_cons_zero]
        refine Z_takeD 16 (some 44) (v := ?_) rfl rfl (by kernel_rfl) (fun _ _ _ h => h) (by rfl) hs ?_ ?_
        rotate_left
        · intro wx hx; obtain ⟨s1, s2⟩ := hx; go_simp; try with_reducible rfl
        simp only [Act.put, List.setIfInBounds_toArray, List.set_cons_succ, List.set_cons_zero]
        refine Z_takeD 17 (some 45) (v := ?_) rfl rfl (by kernel_rfl) (fun _ _ _ h => h) (by rfl) hs ?_ ?_
        rotate_left
        · intro wx hx; obtain ⟨s1, s2⟩ := hx; go_simp; try with_reducible rfl
        simp only [Act.put, List.setIfInBounds_toArray, List.set_cons_succ, List.set_cons_zero]
        refine Z_takeD 18 (some 46) (v := ?_) rfl rfl (by kernel_rfl) (fun _ _ _ h => h) (by rfl) hs ?_ ?_
        rotate_left
        · intro wx hx; obtain ⟨s1, s2⟩ := hx; go_simp; try with_reducible rfl
        simp only [Act.put, List.setIfInBounds_toArray, List.set_cons_succ, List.set_cons_zero]
        refine Z_takeD 19 (some 47) (v := ?_) rfl rfl (by kernel_rfl) (fun _ _ _ h => h) (by rfl) hs ?_ ?_
        rotate_left
        · intro wx hx; obtain ⟨s1, s2⟩ := hx; go_simp; try with_reducible rfl
        simp only [Act.put, List.setIfInBounds_toArray, List.set_cons_succ, List.set_cons_zero]
        refine Z_takeD 20 (some 4) (v := ?_) rfl rfl (by kernel_rfl) (fun _ _ _ h => h) (by rfl) hs ?_ ?_
        rotate_left
        · intro wx hx; obtain ⟨s1, s2⟩ := hx; go_simp; try with_reducible rfl
        simp only [Act.put, List.setIfInBounds_toArray, List.set_cons_succ, List.set_cons_zero]
        refine Z_takeD 21 (some 5) (v := ?_) rfl rfl (by kernel_rfl) (fun _ _ _ h => h) (by rfl) hs ?_ ?_
        rotate_left
        · intro wx hx; obtain ⟨s1, s2⟩ := hx; go_simp; try with_reducible rfl
        simp only [Act.put, List.setIfInBounds_toArray, List.set_cons_succ, List.set_cons_zero]
        refine Z_done (by kernel_rfl) ?_ _
        go_wp2_with fail
        go_ret2
        exact ⟨⟨k, by rw [← HN.out]; exact hk, HCUT.out, by rw [HHIT.out]; rfl⟩, _, World.drewN_drewN _ _ _⟩
    · have hkL : k = L.length := by rw [← HN.out]; omega
      have HCUT : Hid (CutAt L k a) := Lib.hid (by
        intro j hj
        exact ⟨fun h => HLT.out j hj h, fun h => by omega⟩)
      have HHIT : Hid (hitE L k a = false) := Lib.hid (by unfold hitE; rw [List.getElem?_eq_none (by omega)])
      clear hkL
      go_wp2_with fail
      go_upto_region 4 with fail
      refine Z_begin (fun wx => wx.cell? ⟨b, 0, none⟩ = some (.slice A n c) ∧ wx.cell? ⟨b, 0, none⟩ = some (.slice A n c)) 22 (by kernel_rfl) (fun w1 hd => by obtain ⟨q, rfl⟩ := hd; exact ⟨hcell, hcell⟩) (fun w1 hd hs => ?_)
      obtain ⟨nq, rfl⟩ := hd
      refine Z_takeD 0 (some 28) (v := ?_) rfl rfl (by kernel_rfl) (fun _ _ _ h => h) (by rfl) hs ?_ ?_
      rotate_left
      · intro wx hx; obtain ⟨s1, s2⟩ := hx; go_simp; try with_reducible rfl
      simp only [Act.put, List.setIfInBounds_toArray, List.set_cons_succ, List.set_cons_zero]
      refine Z_takeD 1 (some 29) (v := ?_) rfl rfl (by kernel_rfl) (fun _ _ _ h => h) (by rfl) hs ?_ ?_
      rotate_left
      · intro wx hx; obtain ⟨s1, s2⟩ := hx; go_simp; try with_reducible rfl
      simp only [Act.put, List.setIfInBounds_toArray, List.set_cons_succ, List.set_cons_zero]
      refine Z_takeD 2 (some 30) (v := ?_) rfl rfl (by kernel_rfl) (fun _ _ _ h => h) (by rfl) hs ?_ ?_
      rotate_left
      · intro wx hx; obtain ⟨s1, s2⟩ := hx; go_simp; try with_reducible rfl
      simp only [Act.put, List.setIfInBounds_toArray, List.set_cons_succ, List.set_cons_zero]
      refine Z_takeD 3 (some 31) (v := ?_) rfl rfl (by kernel_rfl) (fun _ _ _ h => h) (by rfl) hs ?_ ?_
      rotate_left
      · intro wx hx; obtain ⟨s1, s2⟩ := hx; go_simp; try with_reducible rfl
      simp only [Act.put, List.setIfInBounds_toArray, List.set_cons_succ, List.set_cons_zero]
      refine Z_takeD 4 (some 32) (v := ?_) rfl rfl (by kernel_rfl) (fun _ _ _ h => h) (by rfl) hs ?_ ?_
      rotate_left
      · intro wx hx; obtain ⟨s1, s2⟩ := hx; go_simp; try with_reducible rfl
      simp only [Act.put, List.setIfInBounds_toArray, List.set_cons_succ, List.set_cons_zero]
      refine Z_takeD 5 (some 33) (v := ?_) rfl rfl (by kernel_rfl) (fun _ _ _ h => h) (by rfl) hs ?_ ?_
      rotate_left
      · intro wx hx; obtain ⟨s1, s2⟩ := hx; go_simp; try with_reducible rfl
      simp only [Act.put, List.setIfInBounds_toArray, List.set_cons_succ, List.set_cons_zero]
      refine Z_takeD 6 (some 34) (v := ?_) rfl rfl (by kernel_rfl) (fun _ _ _ h => h) (by rfl) hs ?_ ?_
      rotate_left
      · intro wx hx; obtain ⟨s1, s2⟩ := hx; go_simp; try with_reducible rfl
      simp only [Act.put, List.setIfInBounds_toArray, List.set_cons_succ, List.set_cons_zero]
      refine Z_takeD 7 (some 35) (v := ?_) rfl rfl (by kernel_rfl) (fun _ _ _ h => h) (by rfl) hs ?_ ?_
      rotate_left
      · intro wx hx; obtain ⟨s1, s2⟩ := hx; go_simp; try with_reducible rfl
      simp only [Act.put, List.setIfInBounds_toArray, List.set_cons_succ, List.set_cons_zero]
      refine Z_takeD 8 (some 36) (v := ?_) rfl rfl (by kernel_rfl) (fun _ _ _ h => h) (by rfl) hs ?_ ?_
      rotate_left
      · intro wx hx; obtain ⟨s1, s2⟩ := hx; go_simp; try with_reducible rfl
      simp only [Act.put, List.setIfInBounds_toArray, List.set_cons_succ, List.set_cons_zero]
      refine Z_skipD 9 (some 37) rfl rfl (by kernel_rfl) (fun _ _ _ h => h) (by rfl) hs ?_
      simp only [Act.put, List.setIfInBounds_toArray, List.set_cons_succ, List.set_cons_zero]
      refine Z_skipD 10 (some 38) rfl rfl (by kernel_rfl) (fun _ _ _ h => h) (by rfl) hs ?_
      simp only [Act.put, List.setIfInBounds_toArray, List.set_cons_succ, List.set_cons_zero]
      refine Z_skipD 11 (some 39) rfl rfl (by kernel_rfl) (fun _ _ _ h => h) (by rfl) hs ?_
      simp only [Act.put, List.setIfInBounds_toArray, List.set_cons_succ, List.set_cons_zero]
      refine Z_skipD 12 (some 40) rfl rfl (by kernel_rfl) (fun _ _ _ h => h) (by rfl) hs ?_
      simp only [Act.put, List.setIfInBounds_toArray, List.set_cons_succ, List.set_cons_zero]
      refine Z_skipD 13 (some 41) rfl rfl (by kernel_rfl) (fun _ _ _ h => h) (by rfl) hs ?_
      simp only [Act.put, List.setIfInBounds_toArray, List.set_cons_succ, List.set_cons_zero]
      refine Z_skipD 14 (some 42) rfl rfl (by kernel_rfl) (fun _ _ _ h => h) (by rfl) hs ?_
      simp only [Act.put, List.setIfInBounds_toArray, List.set_cons_succ, List.set_cons_zero]
      refine Z_skipD 15 (some 43) rfl rfl (by kernel_rfl) (fun _ _ _ h => h) (by rfl) hs ?_
      simp only [Act.put, List.setIfInBounds_toArray, List.set_cons_succ, List.set_cons_zero]
      refine Z_skipD 16 (some 44) rfl rfl (by kernel_rfl) (fun _ _ _ h => h) (by rfl) hs ?_
      simp only [Act.put, List.setIfInBounds_toArray, List.set_cons_succ, List.set_cons_zero]
      refine Z_skipD 17 (some 45) rfl rfl (by kernel_rfl) (fun _ _ _ h => h) (by rfl) hs ?_
      simp only [Act.put, List.setIfInBounds_toArray, List.set_cons_succ, List.set_cons_zero]
      refine Z_skipD 18 (some 46) rfl rfl (by kernel_rfl) (fun _ _ _ h => h) (by rfl) hs ?_
      simp only [Act.put, List.setIfInBounds_toArray, List.set_cons_succ, List.set_cons_zero]
      refine Z_takeD 19 (some 47) (v := ?_) rfl rfl (by kernel_rfl) (fun _ _ _ h => h) (by rfl) hs ?_ ?_
      rotate_left
      · intro wx hx; obtain ⟨s1, s2⟩ := hx; go_simp; try with_reducible rfl
      simp only [Act.put, List.setIfInBounds_toArray, List.set_cons_succ, List.set_cons_zero]
      refine Z_takeD 20 (some 4) (v := ?_) rfl rfl (by kernel_rfl) (fun _ _ _ h => h) (by rfl) hs ?_ ?_
      rotate_left
      · intro wx hx; obtain ⟨s1, s2⟩ := hx; go_simp; try with_reducible rfl
      simp only [Act.put, List.setIfInBounds_toArray, List.set_cons_succ, List.set_cons_zero]
      refine Z_takeD 21 (some 5) (v := ?_) rfl rfl (by kernel_rfl) (fun _ _ _ h => h) (by rfl) hs ?_ ?_
      rotate_left
      · intro wx hx; obtain ⟨s1, s2⟩ := hx; go_simp; try with_reducible rfl
      simp only [Act.put, List.setIfInBounds_toArray, List.set_cons_succ, List.set_cons_zero]
      refine Z_done (by kernel_rfl) ?_ _
      go_wp2_with fail
      go_ret2
      exact ⟨⟨k, by rw [← HN.out]; exact hk, HCUT.out, by rw [HHIT.out]; rfl⟩, _, World.drewN_drewN _ _ _⟩

set_option maxRecDepth 20000 in
set_option maxHeartbeats 1000000 in
theorem r13get_any (v : Value) (L : List Ent) (a : Int) (H Fr : HL) (w : World) (h : IsRT v L H) (hH : Holds w (H ++ Fr)) : Calls Try.prog 18 #[v, .int .u64 a] w (RetFr (optE (findE a L)) w (H ++ Fr)) := by
  have hHa := hH.alloc (.cells #[.int .u64 0, .int .i64 0, .bool false, .int .i64 0] 28)
  have HAT := Lib.hid (r13at_any v L a H Fr _ h hHa.tail)
  have HF := Lib.hid hHa
  have HR := Lib.hid h
  obtain ⟨b, rfl⟩ := h.ptr
  clear h hHa
  go_enter Try.func18, Try.ntmps18
  go_wp2_with fail
  refine HAT.out.mono ?_
  rintro e w2 ⟨⟨s, hs, hcut, rfl⟩, q, rfl⟩
  have hH2 := HF.out.drewN q
  have hg2 := ((Grew.refl w).alloc (.cells #[.int .u64 0, .int .i64 0, .bool false, .int .i64 0] 28)).drewN q
  generalize (w.alloc (.cells #[.int .u64 0, .int .i64 0, .bool false, .int .i64 0] 28)).drewN q = w2 at *
  have HH2 := Lib.hid hH2
  have z0 := hH2.hcell 0
  have z1 := hH2.hcell 1
  have z2 := hH2.hcell 2
  have z3 := hH2.hcell 3
  have y0 := hH2.hfrozen 0
  have y1 := hH2.hfrozen 1
  have y2 := hH2.hfrozen 2
  have y3 := hH2.hfrozen 3
  have HG := Lib.hid hg2
  have HCUT := Lib.hid hcut
  clear HAT hH2 hg2 HF hcut
  have HS : Hid (∀ x : Ent, Holds ((((w2.setCell ⟨w.heap.size, 0, none⟩ (.int .u64 x.addr)).setCell ⟨w.heap.size, 1, none⟩ (.int .i64 x.page)).setCell ⟨w.heap.size, 2, none⟩ (.bool x.dirty)).setCell ⟨w.heap.size, 3, none⟩ (.int .i64 x.seq)) (H ++ Fr) ∧
      Grew w ((((w2.setCell ⟨w.heap.size, 0, none⟩ (.int .u64 x.addr)).setCell ⟨w.heap.size, 1, none⟩ (.int .i64 x.page)).setCell ⟨w.heap.size, 2, none⟩ (.bool x.dirty)).setCell ⟨w.heap.size, 3, none⟩ (.int .i64 x.seq))) := Lib.hid fun x =>
    ⟨((((HH2.out.set' 0 _).set' 1 _).set' 2 _).set' 3 _).tail, (((HG.out.setCell _ _).setCell _ _).setCell _ _).setCell _ _⟩
  cases hh : hitE L s a with
  | false =>
    have HX := Lib.hid (find_miss HCUT.out HR.out.inc hh)
    clear hh
    go_wp2_with fail
    refine ⟨rfl, optE none, (by rw [results_cell_tmp rfl]; go_simp; rfl), by rw [HX.out], HS.out Ent.zero⟩
  | true =>
    obtain ⟨hsl, hq⟩ := HCUT.out.hit HR.out.inc hh
    clear hq
    have HX := Lib.hid (find_hit HCUT.out HR.out.inc hh)
    rw [List.getElem?_eq_getElem hsl] at HX
    obtain ⟨b', A, c, hb, hc, hc1, hc2, hat, hce⟩ := HR.out.look HH2.out.tail
    unfold maxLen at hc2
    injection hb with hb
    injection hb with hb
    injection hb with hb
    subst hb
    obtain ⟨bb, oo, rfl, hcc⟩ := hce (by omega)
    obtain ⟨d0, d1, d2, d3⟩ := hcc s hsl
    clear hce hcc hat hh
    generalize L[s] = x at *
    obtain ⟨x0, x1, x2, x3⟩ := x
    simp only at d0 d1 d2 d3
    generalize L.length = n at *
    go_wp2_with fail
    refine ⟨rfl, optE (some ⟨x0, x1, x2, x3⟩), (by rw [results_cell_tmp rfl]; go_simp; rfl), by rw [HX.out], HS.out ⟨x0, x1, x2, x3⟩⟩

def RFromTo (L : List Ent) (a many : Int) (d : Bool) (w : World) (F : HL) (out i : Value) (wr : World) : Prop :=
  ∃ (k : Nat) (Ho : HL), k ≤ L.length ∧ i = .int .i64 k ∧ IsEnts out (fromL (L.take k) a many d) Ho ∧ Holds wr (Ho ++ F) ∧ Grew w wr
set_option maxRecDepth 20000 in
set_option maxHeartbeats 1000000 in
theorem r13from_any (v : Value) (L : List Ent) (a many : Int) (d : Bool) (H Fr : HL) (w : World) (h : IsRT v L H) (hH : Holds w (H ++ Fr)) :
    Calls Try.prog 21 #[v, .int .u64 a, .int .i64 many, .bool d] w (RetNew (fun v' H' => IsEnts v' (fromL L a many d) H') w (H ++ Fr)) := by
  have hle := h.le
  have HR := Lib.hid h
  obtain ⟨b, rfl⟩ := h.ptr
  obtain ⟨n, hn⟩ : ∃ n, n = L.length := ⟨_, rfl⟩
  have HN := Lib.hid hn
  clear h
  rw [← hn] at hle
  clear hn
  go_enter Try.func21, Try.ntmps21
  go_wp2_with fail
  go_loopw [9, 10] (fun out i wr => RFromTo L a many d w (H ++ Fr) out i wr) (fun _ i _ => n - (intOf i).toNat)
  case atStart => exact ⟨0, [], by omega, rfl, by simpa [fromL] using IsEnts.nil, hH, Grew.refl _⟩
  case round =>
    clear hH
    obtain ⟨k, Ho, hk, rfl, hrow, hHr, hgr⟩ := hrel
    have HROW := Lib.hid hrow
    have HHR := Lib.hid hHr
    obtain ⟨Ao, qo, rfl⟩ := hrow.val
    clear hrow
    obtain ⟨b', A, c, hb, hc, hc1, hc2, hat, hce⟩ := HR.out.look (Fr := Ho ++ Fr) hHr.swap
    unfold maxLen at hc2
    injection hb with hb
    injection hb with hb
    injection hb with hb
    subst hb
    rw [← HN.out] at hk hc hc1
    clear hat
    by_cases hlt : k < n
    · have hltL : k < L.length := by rw [← HN.out]; exact hlt
      obtain ⟨bb, oo, rfl, hcc⟩ := hce (by rw [← HN.out]; omega)
      obtain ⟨d0, d1, d2, d3⟩ := hcc k hltL
      have HY : Hid (((fromL (L.take k) a many d).length : Int) < many → okFrom a d L[k] = true → fromL (L.take (k + 1)) a many d = fromL (L.take k) a many d ++ [L[k]]) := Lib.hid (fromL_yes hltL)
      have HNO : Hid (okFrom a d L[k] = false → fromL (L.take (k + 1)) a many d = fromL (L.take k) a many d) := Lib.hid (fromL_no hltL)
      have HST : Hid (¬ ((fromL (L.take k) a many d).length : Int) < many → fromL L a many d = fromL (L.take k) a many d) := Lib.hid fromL_stop
      have hlo : (fromL (L.take k) a many d).length ≤ 1000000 := by
        have := fromL_len (L.take k) a many d
        rw [List.length_take] at this; omega
      clear hce hcc
      generalize L[k] = x at *
      obtain ⟨x0, x1, x2, x3⟩ := x
      simp only at d0 d1 d2 d3
      generalize fromL (L.take k) a many d = z at *
      have HSRC : Hid (ReadsAt (wr.alloc (.cells #[.int .u64 x0, .int .i64 x1, .bool x2, .int .i64 x3] 28)) 4 (.slice (some ⟨wr.heap.size, 0, none⟩) 1 1) 1 [.int .u64 x0, .int .i64 x1, .bool x2, .int .i64 x3]) := Lib.hid (by
        have h := ReadsAt.many (w := wr) (e := 28) (n := 1) (size := 4) (cs := #[.int .u64 x0, .int .i64 x1, .bool x2, .int .i64 x3]) (by rfl) (by simp [maxLen])
        simpa only [World.size_alloc] using h)
      clear hHr
      rcases Bool.eq_false_or_eq_true (decide ((z.length : Int) < many)) with hlen | hlen
      · have hlen' := of_decide_eq_true hlen
        rcases Bool.eq_false_or_eq_true (decide (a ≤ x0)) with ha | ha
        · have ha' := of_decide_eq_true ha
          cases x2 with
          | true =>
            cases d
            all_goals
              have HO := Lib.hid (HY.out hlen' (by simp [okFrom, ha]))
              clear HY HNO HST
              go_wp2_with (at_builtin; refine wpList_append_T tEnts (by rfl) (.tmp 50) (.tmp 58) (by rfl) (by rfl) (by rfl) HROW.out (HHR.out.alloc' _) HSRC.out (by simp [Value.oneCell']) (by simp [maxLen]; omega) (by omega) ?_; intro A' c' w' H' hrow hH3 hg3)
              exact ⟨⟨k + 1, H', by rw [← HN.out]; omega, by go_num, by rw [HO.out]; unfold IsEnts; rw [List.length_append, entC_append]; exact hrow, hH3, (hgr.alloc _).trans hg3⟩, by simp [intOf]; omega⟩
          | false =>
            cases d with
            | false =>
              have HO := Lib.hid (HY.out hlen' (by simp [okFrom, ha]))
              clear HY HNO HST
              go_wp2_with (at_builtin; refine wpList_append_T tEnts (by rfl) (.tmp 50) (.tmp 58) (by rfl) (by rfl) (by rfl) HROW.out (HHR.out.alloc' _) HSRC.out (by simp [Value.oneCell']) (by simp [maxLen]; omega) (by omega) ?_; intro A' c' w' H' hrow hH3 hg3)
              exact ⟨⟨k + 1, H', by rw [← HN.out]; omega, by go_num, by rw [HO.out]; unfold IsEnts; rw [List.length_append, entC_append]; exact hrow, hH3, (hgr.alloc _).trans hg3⟩, by simp [intOf]; omega⟩
            | true =>
              have HO := Lib.hid (HNO.out (by simp [okFrom]))
              clear HY HNO HST
              go_wp2_with fail
              exact ⟨⟨k + 1, Ho, by rw [← HN.out]; omega, by go_num, by rw [HO.out]; exact HROW.out, HHR.out, hgr⟩, by simp [intOf]; omega⟩
        · have ha' := of_decide_eq_false ha
          have HO := Lib.hid (HNO.out (by simp [okFrom, ha]))
          clear HY HNO HST
          go_wp2_with fail
          exact ⟨⟨k + 1, Ho, by rw [← HN.out]; omega, by go_num, by rw [HO.out]; exact HROW.out, HHR.out, hgr⟩, by simp [intOf]; omega⟩
      · have hlen' := of_decide_eq_false hlen
        have HO := Lib.hid (HST.out hlen')
        clear HY HNO HST
        go_wp2_with fail
        go_ret
        exact ⟨_, Ho, rfl, by rw [HO.out]; exact HROW.out, HHR.out, hgr⟩
    · have hkn : k = L.length := by rw [← HN.out]; omega
      subst hkn
      rw [List.take_length] at HROW ⊢
      clear hce
      rw [HN.out] at hc
      go_wp2_with fail
      go_ret
      exact ⟨_, Ho, rfl, HROW.out, HHR.out, hgr⟩

set_option maxRecDepth 20000 in
set_option maxHeartbeats 1000000 in
theorem r13dirty_any (v : Value) (L : List Ent) (H Fr : HL) (w : World) (h : IsRT v L H) (hH : Holds w (H ++ Fr)) :
    Calls Try.prog 25 #[v] w (RetFr (.int .i64 (dirtyN L)) w (H ++ Fr)) := by
  have hle := h.le
  obtain ⟨b, A, c, rfl, hc, hc1, hc2, _, _⟩ := h.look hH
  have HFR := Lib.hid (r13from_any _ L 0 L.length true H Fr w h hH)
  have HD := Lib.hid (fromL_dirty h.2.1)
  clear h hH
  go_enter Try.func25, Try.ntmps25
  go_wp2_with fail
  refine HFR.out.mono ?_
  rintro e w2 ⟨v2, H2, rfl, h2, hH2, hg2⟩
  obtain ⟨A, c, rfl⟩ := h2.val
  rw [HD.out]
  clear h2 HFR
  go_wp2_with fail
  go_ret
  exact ⟨rfl, hH2.right, hg2⟩
end Go.Proofs.Ytnophehonkojaaa
