/-
  Package store: Block, Needed.
-/
import Derived.Test.YtoelopghilbfeaaGreatSt15
namespace Go.Proofs.YtoelopghilbfeaaGreat
open Go.RowKit
set_option linter.unusedSimpArgs false
set_option linter.unusedVariables false

variable {b cb g cap : Nat} {mv : Value} {c : CM} {s : SM} {H Hc Fr : HL} {w : World}
theorem mem_yneeded {y : List YB} {k p : Int} : p ∈ Yneeded y k ↔ ∃ (x : YB) (i : Nat), Yat y k = some x ∧ p = i ∧ i < x.pages.length ∧ (x.pages.getD i (false, false)).1 = true := by
  unfold Yneeded
  cases h : Yat y k with
  | none => simp
  | some x =>
    unfold neededTo
    simp only [List.mem_map, List.mem_filter, List.mem_range]
    constructor
    · rintro ⟨i, ⟨h1, h2⟩, rfl⟩
      exact ⟨x, i, rfl, rfl, h1, h2⟩
    · rintro ⟨x', i, hx, rfl, h1, h2⟩
      injection hx with hx
      subst hx
      exact ⟨i, ⟨h1, h2⟩, rfl⟩
theorem yneeded_len {P : Nat} {y : List YB} (h : Yok P y) (k : Int) : (Yneeded y k).length ≤ P := by
  unfold Yneeded
  cases hx : Yat y k with
  | none => simp
  | some x =>
    unfold neededTo
    have h1 := (h.at_ hx).1
    have := List.length_filter_le (fun i => (x.pages.getD i (false, false)).1) (List.range x.pages.length)
    simp at this ⊢
    omega
def pagesOf (s : SM) (k : Int) : List Int := (Yneeded s.y k).map fun p => k * s.P + p
def BkTo (L : List Int) (f : Int → Int) (w : World) (F : HL) (out i : Value) (wr : World) : Prop :=
  ∃ (j : Nat) (Ho : HL), j ≤ L.length ∧ i = .int .i64 j ∧ IsNums out ((L.take j).map f) Ho ∧ Holds wr (Ho ++ F) ∧ Grew w wr
set_option maxRecDepth 20000 in
theorem block_nil (k : Int) (w : World) : Calls Tryz.prog 33 #[.pointer none, .int .i64 k] w (fun e w' => e = .returned (.slice none 0 0) ∧ w = w') := by
  go_enter Tryz.func33, Tryz.ntmps33
  go_wp2_with fail
  go_ret
  exact ⟨rfl, rfl⟩
set_option maxRecDepth 20000 in
set_option maxHeartbeats 4000000 in
theorem block_any (k : Int) (h : StAt b cb s H) (hH : Holds w (H ++ Fr)) (hy : Yok s.P s.y) (hk0 : 0 ≤ k) (hk1 : k < s.B) : Calls Tryz.prog 33 #[.pointer (some ⟨b, 0, none⟩), .int .i64 k] w (RetNew (fun v H' => IsNums v (pagesOf s k) H') w (H ++ Fr)) := by
  obtain ⟨yb, mb, hcl, hyn⟩ := h.needed
  have HCL := Lib.hid hcl
  have HYN := Lib.hid (hyn k w _ hH)
  have HPB := Lib.hid (plan_bd h.plan)
  have HPG := Lib.hid (fun (p : Int) (wx : World) (F : HL) (hx : Holds wx F) (h1 : 0 ≤ p) (h2 : p < s.P) => page_any (s.B : Int) s.P s.Z k p wx F hx h.plan hk0 hk1 h1 h2)
  have HEL : Hid (∀ p ∈ Yneeded s.y k, 0 ≤ p ∧ p < (s.P : Int)) := Lib.hid (fun p hp => by
    obtain ⟨x, i, hx, rfl, hi, _⟩ := mem_yneeded.1 hp
    have := (hy.at_ hx).1
    omega)
  have hL := yneeded_len hy k
  have HRE := Lib.hid (show pagesOf s k = (Yneeded s.y k).map fun p => k * s.P + p from rfl)
  generalize pagesOf s k = res at *
  generalize Yneeded s.y k = L at *
  have hl8 : L.length ≤ 8 := by have := HPB.out; omega
  obtain ⟨x0, x1, x2, x3, x4, x5, x6⟩ := hcl w _ hH
  clear h hcl hyn hH hy hL hk0 hk1
  go_enter Tryz.func33, Tryz.ntmps33
  go_upto_region 5 with fail
  refine HYN.out.mono ?_
  rintro e w1 ⟨v, Hl, rfl, hv, hH1, hg1⟩
  have HVL := Lib.hid hv
  obtain ⟨Al, cl, rfl⟩ := hv.val
  clear hv HYN x0 x1 x2 x3 x4 x5 x6
  go_wp2_with fail
  go_loopw [5, 17] (fun out i wr => BkTo L (fun p => k * s.P + p) w (Hl ++ (H ++ Fr)) out i wr) (fun _ i _ => L.length - (intOf i).toNat)
  case atStart => exact ⟨0, [], by omega, rfl, IsRow.nil _ _, hH1, hg1⟩
  case round =>
    clear hH1 hg1
    obtain ⟨j, Ho, hj, rfl, ho, hHr, hgr⟩ := hrel
    have HOU := Lib.hid ho
    clear ho
    by_cases hlt : j < L.length
    · have hp : Holds wr (Hl ++ (Ho ++ (H ++ Fr))) := hHr.sub (by (repeat' (first | refine sub_append ?_ ?_ | refine sub_cons ?_ ?_ | exact sub_nil)); all_goals first | (intro p hp; simp only [List.mem_append, List.mem_cons, hp, true_or, or_true]) | simp only [List.mem_append, List.mem_cons, true_or, or_true]) (fun b => by simp only [keyc_append, keyc_cons, keyc_nil]; omega)
      obtain ⟨_, A, c9, hv1, hq1, hq2, ha⟩ := HVL.out.at_ hp
      injection hv1 with hv1 _ hv3
      subst hv1 hv3
      obtain ⟨bl, ol, rfl, hcl⟩ := ha (by omega)
      have hc1 := hcl j (.int .i64 L[j]) (by simp [hlt])
      clear hcl
      have HX := Lib.hid (HEL.out L[j] (List.getElem_mem hlt))
      have HTK := Lib.hid (show (L.take (j + 1)).map (fun p => k * (s.P : Int) + p) = (L.take j).map (fun p => k * (s.P : Int) + p) ++ [k * (s.P : Int) + L[j]] by rw [List.take_succ_eq_append_getElem hlt, List.map_append]; rfl)
      obtain ⟨p, hpe⟩ : ∃ p, p = L[j] := ⟨_, rfl⟩
      rw [← hpe] at hc1 HX HTK
      obtain ⟨x0, x1, x2, x3, x4, x5, x6⟩ := HCL.out wr (Ho ++ (Hl ++ Fr)) (hHr.sub (by (repeat' (first | refine sub_append ?_ ?_ | refine sub_cons ?_ ?_ | exact sub_nil)); all_goals first | (intro p hp; simp only [List.mem_append, List.mem_cons, hp, true_or, or_true]) | simp only [List.mem_append, List.mem_cons, true_or, or_true]) (fun b => by simp only [keyc_append, keyc_cons, keyc_nil]; omega))
      have HP1 := Lib.hid (HPG.out p wr _ hHr HX.out.1 HX.out.2)
      have hjn : (j : Int) < (L.length : Int) := by omega
      clear hpe ha hp hHr
      go_upto_region 8 with fail
      refine HP1.out.mono ?_
      rintro e w2 ⟨rfl, hH2, hg2⟩
      have hG2 := hgr.trans hg2
      clear hgr hg2 x0 x1 x2 x3 x4 x5 x6 HP1
      generalize k * (s.P : Int) + p = pn at *
      have HLN := Lib.hid (show ((L.take j).map (fun p => k * (s.P : Int) + p)).length ≤ 8 by simp; omega)
      generalize (L.take j).map (fun p => k * (s.P : Int) + p) = ot at *
      go_wp2_with (at_builtin; refine wpList_append_T tInts (by rfl) (.tmp 21) (.tmp 29) (by rfl) (by rfl) (by rfl) HOU.out (hH2.alloc' _) ReadsAt.one (by simp [Value.oneCell']) (by have := HLN.out; simp only [maxLen]; omega) (by have := HLN.out; omega) ?_; intro A' c' w' H' hrow hH3 hg3)
      go_roundw
      case rel =>
        refine ⟨j + 1, H', by omega, by go_num, ?_, hH3, (hG2.alloc _).trans hg3⟩
        rw [HTK.out]
        unfold IsNums
        rw [List.length_append, List.map_append]
        exact hrow
      case measure => simp only [intOf]; omega
    · obtain rfl : j = L.length := by omega
      rw [List.take_length] at HOU
      have hjn : ¬ (L.length : Int) < (L.length : Int) := by omega
      go_wp2_with fail
      go_ret
      rw [HRE.out]
      exact ⟨_, Ho, rfl, HOU.out, hHr.sub (by (repeat' (first | refine sub_append ?_ ?_ | refine sub_cons ?_ ?_ | exact sub_nil)); all_goals first | (intro p hp; simp only [List.mem_append, List.mem_cons, hp, true_or, or_true]) | simp only [List.mem_append, List.mem_cons, true_or, or_true]) (fun b => by simp only [keyc_append, keyc_cons, keyc_nil]; omega), hgr⟩
end Go.Proofs.YtoelopghilbfeaaGreat
