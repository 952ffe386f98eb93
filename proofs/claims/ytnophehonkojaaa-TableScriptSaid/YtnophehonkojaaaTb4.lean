/-
  Package table: All, From, Dirty.
-/
import Derived.Test.YtnophehonkojaaaTb3
import Derived.Test.YtnophehonkojaaaEntS
namespace Go.Proofs.Ytnophehonkojaaa
open Go.RowKit
set_option linter.unusedSimpArgs false
set_option linter.unusedVariables false

abbrev IncE (l : List Ent) : Prop := l.Pairwise fun x y => x.addr < y.addr
theorem catN_bk (bk : List (List Ent)) : catN (bk.map fun es => (es.length, entC es)) = bk.flatten.length := by
  unfold catN
  induction bk with
  | nil => rfl
  | cons b bs ih => simp only [List.map_cons, List.sum_cons, List.flatten_cons, List.length_append] at *; omega
theorem catC_bk (bk : List (List Ent)) : catC (bk.map fun es => (es.length, entC es)) = entC bk.flatten := by
  unfold catC
  induction bk with
  | nil => rfl
  | cons b bs ih => simp only [List.map_cons, List.flatten_cons, entC_append, ih]
/-- what is sorted and has the entries of a list that rises is that list -/
theorem asc_eq {l es : List Ent} (hi : IncE l) (ha : Asc es) (hp : es.Perm l) : es = l := by
  induction l generalizing es with
  | nil => exact hp.eq_nil
  | cons x xs ih =>
    match es, hp, ha with
    | [], hp, _ => exact absurd hp.symm.eq_nil (by simp)
    | y :: ys, hp, ha =>
      have hxy : y = x := by
        have hy : y ∈ x :: xs := hp.mem_iff.1 (by simp)
        have hx : x ∈ y :: ys := hp.mem_iff.2 (by simp)
        rcases List.mem_cons.1 hy with h | h
        · exact h
        · rcases List.mem_cons.1 hx with h2 | h2
          · exact h2.symm
          · have h3 := (List.pairwise_cons.1 hi).1 y h
            have h4 := (List.pairwise_cons.1 ha).1 x h2
            omega
      subst hxy
      rw [ih (List.pairwise_cons.1 hi).2 (List.pairwise_cons.1 ha).2 (List.perm_cons y |>.1 hp)]

set_option maxRecDepth 20000 in
set_option maxHeartbeats 400000 in
theorem tball_any (v : Value) (bk : List (List Ent)) (m : Int) (L : List Ent) (H Fr : HL) (w : World) (hv : IsTab v bk m H) (hH : Holds w (H ++ Fr)) (hi : IncE L) (hp : L.Perm bk.flatten) (hsm : L.length ≤ 1000000) :
    Calls Try.prog 12 #[v] w (RetNew (fun v' H' => IsEnts v' L H') w (H ++ Fr)) := by
  obtain ⟨b, A, c, rfl, hl, hc, hcell, _, _, hrd⟩ := hv.view
  obtain ⟨c1, c2, c3, c4⟩ := hcell w Fr hH
  have hpl := hp.length_eq
  have HCAT := Lib.hid (catE_any (.slice A bk.length c) _ w (H ++ Fr) (fun wx hx => hrd wx Fr hx) hH (by rw [catN_bk]; omega) (by rw [catC_bk]; exact entC_one))
  clear hcell hrd
  go_enter Try.func12, Try.ntmps12
  go_wp2_with fail
  refine HCAT.out.mono ?_
  rintro e w1 ⟨v1, H1, rfl, hr1, hH1, hg1⟩
  rw [catN_bk, catC_bk] at hr1
  clear HCAT
  generalize bk.flatten = z at *
  have HSO := Lib.hid (sortEn_any v1 z H1 (H ++ Fr) w1 hr1 hH1 (by omega))
  obtain ⟨A1, q1, rfl⟩ := hr1.val
  clear hr1
  go_wp2_with fail
  refine HSO.out.mono ?_
  rintro e w2 ⟨rfl, H2, ⟨es', he1, he2, he3⟩, hH2, hg2⟩
  have HE : Hid (IsEnts (.slice A1 z.length q1) L H2) := Lib.hid (by rw [← asc_eq hi he2 (he1.trans hp.symm)]; exact he3)
  clear HSO he1 he2 he3
  go_wp2_with fail
  go_ret
  exact ⟨_, H2, rfl, HE.out, hH2, hg1.trans hg2⟩

def okFrom (a : Int) (d : Bool) (e : Ent) : Bool := decide (a ≤ e.addr) && (e.dirty || !d)
def fromL (L : List Ent) (a many : Int) (d : Bool) : List Ent := (L.filter (okFrom a d)).take many.toNat
theorem fromL_yes {L : List Ent} {a many : Int} {d : Bool} {k : Nat} (hk : k < L.length) (hl : ((fromL (L.take k) a many d).length : Int) < many) (ho : okFrom a d L[k] = true) : fromL (L.take (k + 1)) a many d = fromL (L.take k) a many d ++ [L[k]] := by
  unfold fromL at *
  rw [List.length_take] at hl
  rw [List.take_succ_eq_append_getElem hk, List.filter_append, List.take_append, List.take_of_length_le (by omega)]
  congr 1
  rw [show [L[k]].filter (okFrom a d) = [L[k]] by simp [ho], List.take_of_length_le (by simp; omega)]
theorem fromL_no {L : List Ent} {a many : Int} {d : Bool} {k : Nat} (hk : k < L.length) (ho : okFrom a d L[k] = false) : fromL (L.take (k + 1)) a many d = fromL (L.take k) a many d := by
  unfold fromL at *
  rw [List.take_succ_eq_append_getElem hk, List.filter_append, show [L[k]].filter (okFrom a d) = [] by simp [ho], List.append_nil]
theorem fromL_full {L : List Ent} {a many : Int} {d : Bool} {k : Nat} (hk : k < L.length) (hl : ¬ ((fromL (L.take k) a many d).length : Int) < many) : fromL (L.take (k + 1)) a many d = fromL (L.take k) a many d := by
  unfold fromL at *
  rw [List.length_take] at hl
  rw [List.take_succ_eq_append_getElem hk, List.filter_append, List.take_append_of_le_length (by omega)]
theorem fromL_len (L : List Ent) (a many : Int) (d : Bool) : (fromL L a many d).length ≤ L.length := by
  unfold fromL
  rw [List.length_take]
  exact Nat.le_trans (Nat.min_le_right _ _) (List.length_filter_le _ _)

def FromTo (L : List Ent) (a many : Int) (d : Bool) (w : World) (F : HL) (out i : Value) (wr : World) : Prop :=
  ∃ (k : Nat) (Ho : HL), k ≤ L.length ∧ i = .int .i64 k ∧ IsEnts out (fromL (L.take k) a many d) Ho ∧ Holds wr (Ho ++ F) ∧ Grew w wr
set_option maxRecDepth 20000 in
set_option maxHeartbeats 1000000 in
theorem tbfrom_any (v : Value) (bk : List (List Ent)) (m : Int) (L : List Ent) (a many : Int) (d : Bool) (H Fr : HL) (w : World) (hv : IsTab v bk m H) (hH : Holds w (H ++ Fr)) (hi : IncE L) (hp : L.Perm bk.flatten) (hsm : L.length ≤ 1000000) :
    Calls Try.prog 14 #[v, .int .u64 a, .int .i64 many, .bool d] w (RetNew (fun v' H' => IsEnts v' (fromL L a many d) H') w (H ++ Fr)) := by
  have HALL := Lib.hid (tball_any v bk m L H Fr w hv hH hi hp hsm)
  obtain ⟨b, rfl⟩ := hv.ptr
  clear hv hp hi
  go_enter Try.func14, Try.ntmps14
  go_wp2_with fail
  refine HALL.out.mono ?_
  rintro e w1 ⟨v1, H1, rfl, hr1, hH1, hg1⟩
  have HR1 := Lib.hid hr1
  obtain ⟨A1, q1, rfl⟩ := hr1.val
  obtain ⟨n, hn⟩ : ∃ n, n = L.length := ⟨_, rfl⟩
  have HN := Lib.hid hn
  rw [← hn] at HR1 hsm ⊢
  clear hr1 HALL hn
  go_wp2_with fail
  go_loopw [9, 15] (fun out i wr => FromTo L a many d w (H1 ++ (H ++ Fr)) out i wr) (fun _ i _ => n - (intOf i).toNat)
  case atStart => exact ⟨0, [], by omega, rfl, by simpa [fromL] using IsEnts.nil, hH1, hg1⟩
  case round =>
    obtain ⟨k, Ho, hk, rfl, hrow, hHr, hgr⟩ := hrel
    have HROW := Lib.hid hrow
    have HHR := Lib.hid hHr
    obtain ⟨Ao, qo, rfl⟩ := hrow.val
    clear hrow
    rw [← HN.out] at hk
    by_cases hlt : k < n
    · have hltL : k < L.length := by rw [← HN.out]; exact hlt
      have hat := IsEnts.at_ (w := wr) (Fr := Ho ++ (H ++ Fr)) (by have := HR1.out; rw [HN.out] at this; exact this) hHr.swap
      obtain ⟨A2, q2, hv2, _, _, hce⟩ := hat.cells
      injection hv2 with hv2a _ hv2c
      subst hv2a hv2c
      obtain ⟨bb, oo, rfl, hcc⟩ := hce (by omega)
      obtain ⟨d0, d1, d2, d3⟩ := hcc k hltL
      have HY : Hid (((fromL (L.take k) a many d).length : Int) < many → okFrom a d L[k] = true → fromL (L.take (k + 1)) a many d = fromL (L.take k) a many d ++ [L[k]]) := Lib.hid (fromL_yes hltL)
      have HNO : Hid (okFrom a d L[k] = false → fromL (L.take (k + 1)) a many d = fromL (L.take k) a many d) := Lib.hid (fromL_no hltL)
      have HFU : Hid (¬ ((fromL (L.take k) a many d).length : Int) < many → fromL (L.take (k + 1)) a many d = fromL (L.take k) a many d) := Lib.hid (fromL_full hltL)
      have hlo : (fromL (L.take k) a many d).length ≤ 1000000 := by
        have := fromL_len (L.take k) a many d
        rw [List.length_take] at this; omega
      clear hce hcc hat
      generalize L[k] = x at *
      obtain ⟨x0, x1, x2, x3⟩ := x
      simp only at d0 d1 d2 d3
      generalize fromL (L.take k) a many d = z at *
      have HHA : Hid (Holds (wr.alloc (.cells #[.int .u64 x0, .int .i64 x1, .bool x2, .int .i64 x3] 28)) (Ho ++ (H1 ++ (H ++ Fr)))) := Lib.hid (hHr.alloc' _)
      have HSRC : Hid (ReadsAt ((wr.alloc (.cells #[.int .u64 x0, .int .i64 x1, .bool x2, .int .i64 x3] 28)).alloc (.cells #[.int .u64 x0, .int .i64 x1, .bool x2, .int .i64 x3] 28)) 4 (.slice (some ⟨wr.heap.size + 1, 0, none⟩) 1 1) 1 [.int .u64 x0, .int .i64 x1, .bool x2, .int .i64 x3]) := Lib.hid (by
        have h := ReadsAt.many (w := wr.alloc (.cells #[.int .u64 x0, .int .i64 x1, .bool x2, .int .i64 x3] 28)) (e := 28) (n := 1) (size := 4) (cs := #[.int .u64 x0, .int .i64 x1, .bool x2, .int .i64 x3]) (by rfl) (by simp [maxLen])
        simpa only [World.size_alloc] using h)
      clear hHr
      rcases Bool.eq_false_or_eq_true (decide ((z.length : Int) < many)) with hlen | hlen
      · have hlen' := of_decide_eq_true hlen
        rcases Bool.eq_false_or_eq_true (decide (a ≤ x0)) with ha | ha
        · have ha' := of_decide_eq_true ha
          cases x2 with
          | true =>
            have HO := Lib.hid (HY.out hlen' (by simp [okFrom, ha]))
            clear HY HNO HFU
            go_wp2_with (at_builtin; refine wpList_append_T tEnts (by rfl) (.tmp 37) (.tmp 39) (by rfl) (by rfl) (by rfl) HROW.out (HHA.out.alloc' _) HSRC.out (by simp [Value.oneCell']) (by simp [maxLen]; omega) (by omega) ?_; intro A' c' w' H' hrow hH3 hg3)
            exact ⟨⟨k + 1, H', by omega, by go_num, by rw [HO.out]; unfold IsEnts; rw [List.length_append, entC_append]; exact hrow, hH3, ((hgr.alloc _).alloc _).trans hg3⟩, by simp [intOf]; omega⟩
          | false =>
            cases d with
            | false =>
              have HO := Lib.hid (HY.out hlen' (by simp [okFrom, ha]))
              clear HY HNO HFU
              go_wp2_with (at_builtin; refine wpList_append_T tEnts (by rfl) (.tmp 37) (.tmp 39) (by rfl) (by rfl) (by rfl) HROW.out (HHA.out.alloc' _) HSRC.out (by simp [Value.oneCell']) (by simp [maxLen]; omega) (by omega) ?_; intro A' c' w' H' hrow hH3 hg3)
              exact ⟨⟨k + 1, H', by omega, by go_num, by rw [HO.out]; unfold IsEnts; rw [List.length_append, entC_append]; exact hrow, hH3, ((hgr.alloc _).alloc _).trans hg3⟩, by simp [intOf]; omega⟩
            | true =>
              have HO := Lib.hid (HNO.out (by simp [okFrom]))
              clear HY HNO HFU
              go_wp2_with fail
              exact ⟨⟨k + 1, Ho, by omega, by go_num, by rw [HO.out]; exact HROW.out, HHA.out, hgr.alloc _⟩, by simp [intOf]; omega⟩
        · have ha' := of_decide_eq_false ha
          have HO := Lib.hid (HNO.out (by simp [okFrom, ha]))
          clear HY HNO HFU
          go_wp2_with fail
          exact ⟨⟨k + 1, Ho, by omega, by go_num, by rw [HO.out]; exact HROW.out, HHA.out, hgr.alloc _⟩, by simp [intOf]; omega⟩
      · have hlen' := of_decide_eq_false hlen
        have HO := Lib.hid (HFU.out hlen')
        clear HY HNO HFU
        go_wp2_with fail
        exact ⟨⟨k + 1, Ho, by omega, by go_num, by rw [HO.out]; exact HROW.out, HHA.out, hgr.alloc _⟩, by simp [intOf]; omega⟩
    · have hkn : k = L.length := by rw [← HN.out]; omega
      subst hkn
      rw [List.take_length] at HROW ⊢
      go_wp2_with fail
      go_ret
      exact ⟨_, Ho, rfl, HROW.out, HHR.out.mid, hgr⟩
end Go.Proofs.Ytnophehonkojaaa
