/-
  Chapter 11: awake.
-/
import Derived.Test.YteaeahhjkagbdaaYd9
namespace Go.Proofs.Yteaeahhjkagbdaa
open Go.RowKit
set_option linter.unusedSimpArgs false
set_option linter.unusedVariables false

theorem isErr0 {v : Value} {H : HL} (h : IsErr v 0 H) : v = .nilIface ∧ H = [] := by
  rcases h with ⟨_, h1, h2⟩ | ⟨h0, _⟩
  · exact ⟨h1, h2⟩
  · exact absurd rfl h0
theorem isErrP {v : Value} {c : Int} {H : HL} (h : IsErr v c H) (hc : c ≠ 0) : ∃ b s, v = .iface 148 (.pointer (some ⟨b, 0, none⟩)) ∧ H = [(b, .cells #[.int .i64 c, .string s] 151)] := by
  rcases h with ⟨h1, _⟩ | ⟨_, h⟩
  · exact absurd h1 hc
  · exact h
/-- a literal of one int -/
theorem nums1 (g : Nat) (x : Int) : IsNums (.slice (some ⟨g, 0, none⟩) 1 1) [x] [(g, .cells #[.int .i64 x] 3)] := by
  have := IsRow.made (size := 1) (e := 3) g 1 #[.int .i64 x] (by rfl) (by simp [maxLen])
  exact this

def yA1 : List YB := [⟨2, 0, [(false, false), (false, false)]⟩, ⟨1, 0, [(false, false), (false, false)]⟩]
def yA2 : List YB := [⟨2, 1, [(false, false), (false, false)]⟩, ⟨1, 0, [(false, false), (false, false)]⟩]
def yA3 : List YB := [⟨2, 1, [(true, true), (false, false)]⟩, ⟨1, 0, [(false, false), (false, false)]⟩]

set_option maxRecDepth 100000 in
set_option maxHeartbeats 4000000 in
theorem awake11_any (w : World) (Fr : HL) (hH : Holds w Fr) : Calls Try.prog 59 #[] w (RetFr (.bool true) w Fr) := by
  have k1 := err_eq
  have k2 := nil_eq
  have e1 : Yopen (Ynew 2 2) 0 = (yA1, 0) := by rfl
  have e2 : Ynext yA1 0 = (yA2, 0, 0) := by rfl
  have e3 : Yneed yA2 0 0 true = (yA3, 0) := by rfl
  have e4 : Yfree yA3 0 = (yA3, 9) := by
    have hn : Yneeded yA3 0 ≠ [] := by decide
    have ha : Yat yA3 0 = some ⟨2, 1, [(true, true), (false, false)]⟩ := by rfl
    unfold Yfree; rw [ha]; simp only; rw [if_pos (.inr hn)]
  have e5 : Ydrop yA3 1 9 = (yA3, 2) := by rfl
  have e6 : Ydirty yA3 0 = 1 := by rfl
  have e7 : Yneeded yA3 0 = [0] := by rfl
  have e8 : Ystate yA3 1 = 1 := by rfl
  have HE := Lib.hid (And.intro e1 (And.intro e2 (And.intro e3 (And.intro e4 (And.intro e5 (And.intro e6 (And.intro e7 e8)))))))
  clear e1 e2 e3 e4 e5 e6 e7 e8
  go_enter Try.func59, Try.ntmps59
  go_wp2_with fail
  refine (ynew_good 2 2 Fr w hH (by omega) (by omega) (by omega) (by omega)).mono ?_
  rintro e w1 ⟨dv, H0, rfl, hd, hH1, hg1⟩
  obtain ⟨b, rfl⟩ := hd.ptr
  have HD := Lib.hid hd; clear hd
  go_wp2_with fail
  refine (yopen_any 0 HD.out hH1).mono ?_
  rw [HE.out.1]
  rintro e w2 ⟨ve, H1, He, rfl, he, hd, hH2, hg2⟩
  obtain ⟨rfl, rfl⟩ := isErr0 he
  have HD1 := Lib.hid hd; clear hd he
  go_wp2_with fail
  refine (ynext_any 0 HD1.out hH2).mono ?_
  rw [HE.out.2.1]
  rintro e w3 ⟨ve, H2, He, rfl, he, hd, hH3, hg3⟩
  obtain ⟨rfl, rfl⟩ := isErr0 he
  have HD2 := Lib.hid hd; clear hd he
  go_wp2_with fail
  refine (yneed_any 0 0 true HD2.out hH3).mono ?_
  rw [HE.out.2.2.1]
  rintro e w4 ⟨ve, H3, He, rfl, he, hd, hH4, hg4⟩
  obtain ⟨rfl, rfl⟩ := isErr0 he
  have HD3 := Lib.hid hd; clear hd he
  go_wp2_with fail
  refine (yfree_any 0 HD3.out hH4).mono ?_
  rw [HE.out.2.2.2.1]
  rintro e w5 ⟨ve, H4, He5, rfl, he5, hd, hH5, hg5⟩
  obtain ⟨b5, s5, rfl, _⟩ := isErrP he5 (by decide)
  have HE5 := Lib.hid he5
  have HD4 := Lib.hid hd; clear hd he5
  go_wp2_with fail
  refine (ydrop_any 1 9 HD4.out hH5).mono ?_
  rw [HE.out.2.2.2.2.1]
  rintro e w6 ⟨ve, H5, He6, rfl, he6, hd, hH6, hg6⟩
  obtain ⟨b6, s6, rfl, _⟩ := isErrP he6 (by decide)
  have HE6 := Lib.hid he6
  have HD5 := Lib.hid hd; clear hd he6
  have hG6 := ((((hg1.trans hg2).trans hg3).trans hg4).trans hg5).trans hg6
  clear hg1 hg2 hg3 hg4 hg5 hg6 hH1 hH2 hH3 hH4 hH5
  go_wp2_with fail
  refine (num_any _ 9 He5 (H5 ++ (He6 ++ Fr)) w6 HE5.out (hH6.sub (by (repeat' (first | refine sub_append ?_ ?_ | refine sub_cons ?_ ?_ | exact sub_nil)); all_goals first | (intro p hp; simp only [List.mem_append, List.mem_cons, hp, true_or, or_true]) | simp only [List.mem_append, List.mem_cons, true_or, or_true]) (fun b => by simp only [keyc_append, keyc_cons, keyc_nil]; omega)) (by omega)).mono ?_
  rintro e wx ⟨rfl, rfl⟩
  go_wp2_with fail
  refine (num_any _ 2 He6 (H5 ++ (He5 ++ Fr)) w6 HE6.out (hH6.sub (by (repeat' (first | refine sub_append ?_ ?_ | refine sub_cons ?_ ?_ | exact sub_nil)); all_goals first | (intro p hp; simp only [List.mem_append, List.mem_cons, hp, true_or, or_true]) | simp only [List.mem_append, List.mem_cons, true_or, or_true]) (fun b => by simp only [keyc_append, keyc_cons, keyc_nil]; omega)) (by omega)).mono ?_
  rintro e wx ⟨rfl, rfl⟩
  go_wp2_with fail
  refine (ydirty_any 0 HD5.out hH6).mono ?_
  rw [HE.out.2.2.2.2.2.1]
  rintro e w7 ⟨rfl, hH7, hg7⟩
  go_wp2_with fail
  refine (yneededL_any 0 HD5.out hH7).mono ?_
  rw [HE.out.2.2.2.2.2.2.1]
  rintro e w8 ⟨nv, Hn, rfl, hnv, hH8, hg8⟩
  obtain ⟨An, qn, rfl⟩ := hnv.val
  have hH9 := hH8.alloc (.cells #[.int .i64 0] 3)
  have hG9 := ((hG6.trans hg7).trans hg8).alloc (.cells #[.int .i64 0] 3)
  have hsm := sameI_any (.slice An 1 qn) (.slice (some ⟨w8.heap.size, 0, none⟩) 1 1) [0] [0] (w8.alloc (.cells #[.int .i64 0] 3)) (hnv.at_ hH9.tail) ((nums1 w8.heap.size 0).at_ (H := [_]) hH9)
  rw [decide_eq_true rfl] at hsm
  have HSM := Lib.hid hsm
  have hHa := hH9.tail.right
  clear hsm hH9 hH8 hg8 hg7 hH7 hH6 hG6 hnv
  go_wp2_with fail
  refine HSM.out.mono ?_
  rintro e w9 ⟨rfl, hq9⟩
  have hHb := hHa.dr hq9
  have hGb := hG9.trans (Grew.dr hq9)
  clear hHa hG9 hq9 HSM
  go_wp2_with fail
  refine (ystate_any 1 HD5.out hHb).mono ?_
  rw [HE.out.2.2.2.2.2.2.2]
  rintro e wb ⟨rfl, hHc, hgc⟩
  go_wp2_with fail
  refine (ynew_bad 0 1 _ (by omega)).mono ?_
  rintro e wc ⟨rfl, rfl⟩
  go_wp2_with fail
  go_ret
  exact ⟨rfl, hHc.sub (by (repeat' (first | refine sub_append ?_ ?_ | refine sub_cons ?_ ?_ | exact sub_nil)); all_goals first | (intro p hp; simp only [List.mem_append, List.mem_cons, hp, true_or, or_true]) | simp only [List.mem_append, List.mem_cons, true_or, or_true]) (fun b => by simp only [keyc_append, keyc_cons, keyc_nil]; omega), hGb.trans hgc⟩
end Go.Proofs.Yteaeahhjkagbdaa
