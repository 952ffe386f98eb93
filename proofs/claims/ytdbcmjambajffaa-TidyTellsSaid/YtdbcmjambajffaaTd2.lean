/-
  Chapter 22: slices.Clone, Compact at uint64; tidy.once.
-/
import Derived.Test.YtdbcmjambajffaaTd1
import Derived.Test.YtdbcmjambajffaaCmp
namespace Go.Proofs.Ytdbcmjambajffaa
open Go.RowKit
set_option linter.unusedSimpArgs false
set_option linter.unusedVariables false

set_option maxHeartbeats 400000 in
theorem clone64_any (v : Value) (bs : List Int) (w : World) (Fr : HL) (hb : WsAt w v bs) (hH : Holds w Fr) (hsm : bs.length ≤ 1000000) :
    Calls Try.prog 24 #[v] w (RetNew (fun v H => IsWs v bs H) w Fr) := by
  have h1 : ∀ y ∈ bs.map (Value.int .u64), y.oneCell' = true := by intro y hy; obtain ⟨x, _, rfl⟩ := List.mem_map.1 hy; rfl
  obtain ⟨A, c, rfl⟩ := (show ∃ A c, v = .slice A bs.length c from by obtain ⟨_, A, c, hv, _⟩ := hb; exact ⟨A, c, hv⟩)
  have HB := Lib.hid hb
  have H1 := Lib.hid h1; clear h1
  cases A with
  | none =>
    obtain ⟨_, A, c', hv, hc1, hc2, h0⟩ := hb
    injection hv with hv1 hv2 hv3
    subst hv1 hv3
    have hz : bs.length = 0 := by
      rcases Nat.eq_zero_or_pos bs.length with h | h
      · exact h
      · obtain ⟨b, o, h, _⟩ := h0 h; cases h
    obtain rfl : bs = [] := List.eq_nil_of_length_eq_zero hz
    have k1 : ∀ w : World, (binOp .eql 23 (.slice none 0 c) (.slice none 0 0)).run Try.prog w = .ok (.bool true) w := fun w => Lib.run_eql_slice_nil w _ _ _ _ _ _ _ tWs.under
    clear h0 hz hc1
    go_enter Try.func24, Try.ntmps24
    go_wp2
    go_ret
    exact ⟨_, [], rfl, IsRow.nil _ _, hH, Grew.refl w⟩
  | some a =>
    have k1 : ∀ w : World, (binOp .eql 23 (.slice (some a) bs.length c) (.slice none 0 0)).run Try.prog w = .ok (.bool false) w := fun w => Lib.run_eql_slice_nil w _ _ _ _ _ _ _ tWs.under
    clear hb
    go_enter Try.func24, Try.ntmps24
    go_wp2_with (at_builtin; refine wpList_append_T tWs (by rfl) (.tmp 5) (.tmp 6) (by rfl) (by rfl) (by rfl) (IsRow.made0 (size := 1) (e := 22) w.heap.size 0 #[] (by rfl) (by simp [maxLen])) ((hH.alloc (.cells #[] 22))) (HB.out.alloc _) H1.out (by simp [maxLen]; omega) (by omega) ?_; intro A' c' w' H' hrow hH3 hg2)
    go_ret
    simp only [Nat.zero_add, List.nil_append] at hrow
    exact ⟨_, H', rfl, hrow, hH3, ((Grew.refl w).alloc _).trans hg2⟩

set_option maxRecDepth 20000 in
theorem compact64_any (v : Value) (zs : List Int) (H Fr : HL) (w : World) (hv : IsWs v zs H) (hH : Holds w (H ++ Fr)) (hsm : zs.length ≤ 1000000) :
    Calls Try.prog 26 #[v] w (RetNew (fun v' H' => IsWs v' (Lib.compact zs) H') w Fr) := by
  unfold IsWs at *
  rcases hv with ⟨hl, ⟨rfl, h0, rfl⟩ | ⟨g, cap, cur, fz, rfl, hn, hc, hs, ht, hf, rfl⟩⟩
  · obtain rfl : zs = [] := List.length_eq_zero_iff.1 h0
    go_enter Try.func26, Try.ntmps26
    go_wp2_with fail
    go_ret
    exact ⟨_, [], rfl, by simpa [Lib.compact, Lib.compactUpTo] using IsRow.nil _ _, hH, Grew.refl _⟩
  · rw [Nat.mul_one] at hl hs ht
    have hG : Go.Sort.Holds (Value.int .u64) w g 0 zs.toArray := fun j hj => by
      have hj' : j < zs.length := by simpa using hj
      refine ⟨?_, ?_⟩
      · rw [Nat.zero_add, hH.cell (t := 22) (cs := cur) (fz := fz) (by simp)]
        have h1 : (cur.toList.take zs.length)[j]? = (zs.map (Value.int .u64))[j]? := by rw [ht]
        rw [List.getElem?_take, if_pos hj'] at h1
        rw [← Array.getElem?_toList, h1]
        simp [hj']
      · rw [Nat.zero_add]
        exact frozen_of_block (t := 22) (cs := cur) (fz := fz) (hH.get (by simp)) hf (by omega)
    have hA := compactW_any g 0 cap zs.toArray w hG (by simpa using hsm) (by simpa using hn)
    have hsz : zs.toArray.size = zs.length := by simp
    have hcle : (Lib.compact zs).length ≤ zs.length := by
      unfold Lib.compact Lib.compactUpTo
      rw [List.length_map]
      exact Nat.le_trans (List.length_filter_le _ _) (by simp)
    have hce : Lib.compactUpTo zs.toArray zs.toArray.size = Lib.compact zs := by unfold Lib.compact; rw [hsz]
    rw [hce, hsz] at hA
    refine hA.mono ?_
    rintro e w' ⟨rfl, q, rfl⟩
    obtain ⟨h1, h2⟩ := putRow_row (g := g) (cur := cur) (t := 22) (fz := fz) (H := Fr) q #[] (Lib.compact zs ++ List.replicate (zs.length - (Lib.compact zs).length) 0).toArray (by simpa using hH)
    rw [Go.Sort.grow_empty] at h1 h2
    refine ⟨_, [(g, .cells (Go.Sort.putCells (Value.int .u64) 0 (Lib.compact zs ++ List.replicate (zs.length - (Lib.compact zs).length) 0).toArray cur) 22 fz)], rfl, ?_, by exact h1, h2⟩
    have hlx : (Lib.compact zs ++ List.replicate (zs.length - (Lib.compact zs).length) (0 : Int)).length = zs.length := by simp; omega
    have e1 := putCells_take (Lib.compact zs ++ List.replicate (zs.length - (Lib.compact zs).length) 0) cur (by rw [hlx]; omega)
    rw [hlx] at e1
    refine ⟨by simp, .inr ⟨g, cap, _, fz, rfl, by omega, hc, by rw [putCells_size]; omega, ?_, by rw [putCells_size]; exact hf, rfl⟩⟩
    rw [Nat.mul_one]
    have e2 := congrArg (List.take (Lib.compact zs).length) e1
    rw [List.take_take, Nat.min_eq_left hcle, List.map_append, List.take_append_of_le_length (by simp), List.take_of_length_le (l := (Lib.compact zs).map (Value.int .u64)) (by simp)] at e2
    exact e2

set_option maxRecDepth 20000 in
theorem once_any (v : Value) (zs : List Int) (w : World) (Fr : HL) (hv : WsAt w v zs) (hH : Holds w Fr) (hsm : zs.length ≤ 1000000) :
    Calls Try.prog 19 #[v] w (RetNew (fun v' H' => IsWs v' (onceU zs) H') w Fr) := by
  have HC := Lib.hid (clone64_any v zs w Fr hv hH hsm)
  obtain ⟨_, A, c, rfl, _⟩ := hv
  go_enter Try.func19, Try.ntmps19
  go_wp2_with fail
  refine HC.out.mono ?_
  rintro e w1 ⟨v1, H1, rfl, h1, hH1, hg1⟩
  clear HC
  have HS := Lib.hid (sort64_any v1 zs H1 Fr w1 h1 hH1 hsm)
  obtain ⟨A1, c1, rfl⟩ := h1.val
  clear h1
  go_wp2_with fail
  refine HS.out.mono ?_
  rintro e w2 ⟨rfl, H2, h2, hH2, hg2⟩
  have HK := Lib.hid (compact64_any _ (srt zs) H2 Fr w2 h2 hH2 (by rw [srt_length]; exact hsm))
  clear h2 HS
  go_wp2_with fail
  refine HK.out.mono ?_
  rintro e w3 ⟨v3, H3, rfl, h3, hH3, hg3⟩
  have H3H := Lib.hid h3
  obtain ⟨A3, c3, rfl⟩ := h3.val
  clear h3 HK
  go_wp2_with fail
  go_ret
  exact ⟨_, H3, rfl, H3H.out, hH3, (hg1.trans hg2).trans hg3⟩
end Go.Proofs.Ytdbcmjambajffaa
