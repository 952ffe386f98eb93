/-
  Chapter 22: tidy.Pick and tidy.Runs.
-/
import Derived.Test.YtdbcmjambajffaaCat64
import Derived.Test.YtdbcmjambajffaaSe
import Derived.Test.YtdbcmjambajffaaTdP
namespace Go.Proofs.Ytdbcmjambajffaa
open Go.RowKit
set_option linter.unusedSimpArgs false
set_option linter.unusedVariables false

theorem frRows_two {b : Nat} {v1 v2 : Value} {n1 n2 size : Nat} {x1 x2 : List Value} {e : TypeId} {F : HL} (h1 : ∀ w, Holds w F → ReadsAt w size v1 n1 x1) (h2 : ∀ w, Holds w F → ReadsAt w size v2 n2 x2) :
    FrRows ((b, .cells #[v1, v2] e) :: F) size (.slice (some ⟨b, 0, none⟩) 2 2) [(n1, x1), (n2, x2)] := fun w hw =>
  ⟨[v1, v2], ReadsAt.of_block (hw.get (List.mem_cons_self)) [v1, v2] rfl (Nat.le_refl _) (by simp [maxLen]) (fun j u hu => by simpa using hu), rfl, fun i ev x he hx => by
    match i with
    | 0 => simp only [List.getElem?_cons_zero, Option.some.injEq] at he hx; subst he; subst hx; exact h1 w hw.tail
    | 1 => simp only [List.getElem?_cons_succ, List.getElem?_cons_zero, Option.some.injEq] at he hx; subst he; subst hx; exact h2 w hw.tail
    | k + 2 => simp at he⟩

theorem countP_lt (f : Int) (s : List Int) : s.countP (· < f) = idxU f s := rfl

set_option maxRecDepth 20000 in
set_option maxHeartbeats 1000000 in
theorem pick_any (many f : Int) (v : Value) (zs : List Int) (w : World) (Fr : HL) (hv : WsAt w v zs) (hH : Holds w Fr) (hsm : zs.length ≤ 1000000) :
    Calls Try.prog 8 #[.int .i64 many, .int .u64 f, v] w (RetNew (fun v' H' => IsWs v' (pickU many f zs) H') w Fr) := by
  have HO := Lib.hid (once_any v zs w Fr hv hH hsm)
  obtain ⟨_, A, c, rfl, _⟩ := hv
  by_cases hm : many < 1
  · have e0 : pickU many f zs = [] := by unfold pickU; rw [if_pos hm]
    clear HO
    go_enter Try.func8, Try.ntmps8
    go_wp2_with fail
    go_ret
    exact ⟨_, [], rfl, by rw [e0]; exact IsRow.nil _ _, hH, Grew.refl w⟩
  · have HE : Hid (pickU many f zs = ((onceU zs).drop (idxU f (onceU zs)) ++ (onceU zs).take (idxU f (onceU zs))).take many.toNat) := Lib.hid (by unfold pickU; rw [if_neg hm])
    have hls := onceU_len zs
    have HI := Lib.hid (onceU_inc zs)
    have hix := idx_le f (onceU zs)
    go_enter Try.func8, Try.ntmps8
    go_wp2_with fail
    refine HO.out.mono ?_
    rintro e w1 ⟨v1, H1, rfl, h1, hH1, hg1⟩
    clear HO
    generalize onceU zs = s at *
    have hle : s.Pairwise (· ≤ ·) := HI.out.imp (fun h => by omega)
    have HS := Lib.hid (search64_any v1 s f w1 (h1.at_ hH1) hle (by omega))
    have HR := Lib.hid h1
    rcases h1 with ⟨hl, ⟨rfl, hn0, rfl⟩ | ⟨g, cap, cur, fz, rfl, hn, hc, hs, ht, hf, rfl⟩⟩
    · obtain rfl : s = [] := List.length_eq_zero_iff.1 hn0
      have e0 : pickU many f zs = [] := by rw [HE.out]; simp
      clear hl hn0 HE
      go_wp2_with fail
      refine HS.out.mono ?_
      rintro e w2 ⟨rfl, q, rfl⟩
      clear HS HR hix HI hle hls
      have hz3 : min many (0 : Int) = 0 := by omega
      have hcp : List.countP (fun x => decide (x < f)) ([] : List Int) = 0 := rfl
      rw [hcp]
      have HF1 := Lib.hid (show ∀ wx, Holds wx ([] ++ Fr) → ReadsAt wx 1 (.slice none 0 0) 0 [] from fun wx hx => (IsRow.nil 22 1).reads hx)
      clear hcp
      go_upto_region 5 with fail
      refine Z_begin (fun wx => True ∧ True) 9 (by kernel_rfl) (fun w1 hd => ⟨trivial, trivial⟩) (fun w1 hd hs => ?_)
      have hHd := (hH1.drewN q).dr hd; have hGd := (hg1.drewN q).trans (Grew.dr hd); clear hd
      refine Z_takeD 0 (some 20) (v := ?_) rfl rfl (by kernel_rfl) (fun _ _ _ h => h) (by rfl) hs ?_ ?_
      rotate_left
      · intro wx hx; obtain ⟨x1, x2⟩ := hx; go_simp; try with_reducible rfl
      simp only [Act.put, List.setIfInBounds_toArray, List.set_cons_succ, List.set_cons_zero]
      refine Z_takeD 1 (some 21) (v := ?_) rfl rfl (by kernel_rfl) (fun _ _ _ h => h) (by rfl) hs ?_ ?_
      rotate_left
      · intro wx hx; obtain ⟨x1, x2⟩ := hx; go_simp; try with_reducible rfl
      simp only [Act.put, List.setIfInBounds_toArray, List.set_cons_succ, List.set_cons_zero]
      refine Z_takeD 2 (some 22) (v := ?_) rfl rfl (by kernel_rfl) (fun _ _ _ h => h) (by rfl) hs ?_ ?_
      rotate_left
      · intro wx hx; obtain ⟨x1, x2⟩ := hx; go_simp; try with_reducible rfl
      simp only [Act.put, List.setIfInBounds_toArray, List.set_cons_succ, List.set_cons_zero]
      refine Z_takeD 3 (some 23) (v := ?_) rfl rfl (by kernel_rfl) (fun _ _ _ h => h) (by rfl) hs ?_ ?_
      rotate_left
      · intro wx hx; obtain ⟨x1, x2⟩ := hx; go_simp; try with_reducible rfl
      simp only [Act.put, List.setIfInBounds_toArray, List.set_cons_succ, List.set_cons_zero]
      refine Z_takeD 4 (some 24) (v := ?_) rfl rfl (by kernel_rfl) (fun _ _ _ h => h) (by rfl) hs ?_ ?_
      rotate_left
      · intro wx hx; obtain ⟨x1, x2⟩ := hx; go_simp; try with_reducible rfl
      simp only [Act.put, List.setIfInBounds_toArray, List.set_cons_succ, List.set_cons_zero]
      refine Z_takeD 5 (some 25) (v := ?_) rfl rfl (by kernel_rfl) (fun _ _ _ h => h) (by rfl) hs ?_ ?_
      rotate_left
      · intro wx hx; obtain ⟨x1, x2⟩ := hx; go_simp; try with_reducible rfl
      simp only [Act.put, List.setIfInBounds_toArray, List.set_cons_succ, List.set_cons_zero]
      refine Z_mid 6 rfl (by kernel_rfl) (fun K hK => ?_)
      have ⟨x1, x2⟩ := hs
      go_simp   -- buildSlice w
      clear x1 x2
      refine hK _ _ (⟨trivial, trivial⟩) (fun hs2 => ?_); clear hK K hs; have hs := hs2; clear hs2
      refine Z_mid 7 rfl (by kernel_rfl) (fun K hK => ?_)
      have ⟨x1, x2⟩ := hs
      go_simp; refine (cat64_any _ _ _ _ (frRows_two HF1.out HF1.out) (hHd.alloc _) (by simp [catN]) (by simp [catC])).mono ?_; rintro e w4 ⟨v4, H4, rfl, h4, hH4, hg4⟩; simp only [catN, catC, List.map_cons, List.map_nil, List.sum_cons, List.sum_nil, List.flatten_cons, List.flatten_nil, List.append_nil, Nat.add_zero] at h4; obtain ⟨A4, c4, rfl⟩ := h4.val   -- call w
      clear x1 x2
      refine hK _ _ (⟨trivial, trivial⟩) (fun hs2 => ?_); clear hK K hs; have hs := hs2; clear hs2
      refine Z_takeD 8 (some 7) (v := ?_) rfl rfl (by kernel_rfl) (fun _ _ _ h => h) (by rfl) hs ?_ ?_
      rotate_left
      · intro wx hx; obtain ⟨x1, x2⟩ := hx; go_simp; try with_reducible rfl
      simp only [Act.put, List.setIfInBounds_toArray, List.set_cons_succ, List.set_cons_zero]
      refine Z_done (by kernel_rfl) ?_ _
      clear HF1
      have HE0 := Lib.hid e0
      clear e0
      rcases h4 with ⟨hl4, ⟨hv4, hn4, rfl⟩ | ⟨g4, cap4, cur4, fz4, hv4, hn', hc', hs', ht', hf', rfl⟩⟩
      · injection hv4 with hv41 hv42 hv43
        subst hv41; subst hv43
        clear hn4 hl4 hv42
        go_wp2_with fail
        go_ret
        exact ⟨_, [], rfl, by rw [HE0.out]; exact IsRow.nil _ _, hH4.sub (by (repeat' (first | refine sub_append ?_ ?_ | refine sub_cons ?_ ?_ | exact sub_nil)); all_goals first | (intro p hp; simp only [List.mem_append, List.mem_cons, hp, true_or, or_true]) | simp only [List.mem_append, List.mem_cons, true_or, or_true]) (fun b => by simp only [keyc_append, keyc_cons, keyc_nil]; omega), hGd.trans (((Grew.refl _).alloc _).trans hg4)⟩
      · injection hv4 with hv41 hv42 hv43
        subst hv41; subst hv43
        have HTT := Lib.hid ht'
        have HFF := Lib.hid hf'
        clear hl4 hv42 ht' hf' hn'
        go_wp2_with fail
        go_ret
        exact ⟨_, [(g4, .cells cur4 22 fz4)], rfl, by rw [HE0.out]; exact ⟨rfl, .inr ⟨g4, c4, cur4, fz4, rfl, by simp, hc', hs', HTT.out, HFF.out, rfl⟩⟩, hH4.sub (by (repeat' (first | refine sub_append ?_ ?_ | refine sub_cons ?_ ?_ | exact sub_nil)); all_goals first | (intro p hp; simp only [List.mem_append, List.mem_cons, hp, true_or, or_true]) | simp only [List.mem_append, List.mem_cons, true_or, or_true]) (fun b => by simp only [keyc_append, keyc_cons, keyc_nil]; omega), hGd.trans (((Grew.refl _).alloc _).trans hg4)⟩
    · clear hl ht hf
      rw [Nat.mul_one] at hs
      go_wp2_with fail
      refine HS.out.mono ?_
      rintro e w2 ⟨rfl, q, rfl⟩
      clear HS
      rw [countP_lt]
      generalize idxU f s = i at *
      unfold maxLen at hc
      have hic : i ≤ cap := by omega
      obtain ⟨oi, hoi, hoi2⟩ : ∃ oi, (if cap = i then some (⟨g, 0, none⟩ : Addr) else some ⟨g, i, none⟩) = some ⟨g, oi, none⟩ ∧ (i < s.length → oi = i) := by
        by_cases h : cap = i
        · exact ⟨0, by rw [if_pos h], fun h2 => by omega⟩
        · exact ⟨i, by rw [if_neg h], fun _ => rfl⟩
      have hcat : catN [(s.length - i, (s.drop i).map (Value.int .u64)), (i, (s.take i).map (Value.int .u64))] = s.length := by simp [catN]; omega
      have hcac : catC [(s.length - i, (s.drop i).map (Value.int .u64)), (i, (s.take i).map (Value.int .u64))] = (s.drop i ++ s.take i).map (Value.int .u64) := by simp [catC]
      have HC := Lib.hid hcat
      have HCC := Lib.hid hcac
      have hF1 : ∀ wx, Holds wx ([(g, .cells cur 22 fz)] ++ Fr) → ReadsAt wx 1 (.slice (some ⟨g, oi, none⟩) (s.length - i) (cap - i)) (s.length - i) ((s.drop i).map (Value.int .u64)) := by
        intro wx hx
        have hh := HR.out.reads hx
        obtain ⟨hl1, A5, c5, hv5, hc51, hc52, hrd5⟩ := hh
        injection hv5 with hv51 _ hv53
        subst hv51; subst hv53
        refine ⟨by simp, _, _, rfl, by omega, by unfold maxLen; omega, fun h0 => ⟨g, oi, rfl, fun j u hu => ?_⟩⟩
        obtain ⟨b5, o5, he5, hcell5⟩ := hrd5 (by omega)
        injection he5 with he5
        injection he5 with e1 e2 _
        subst e1; subst e2
        rw [List.getElem?_map, List.getElem?_drop] at hu
        have := hcell5 (i + j) u (by rw [List.getElem?_map]; exact hu)
        rw [hoi2 (by omega)]
        rw [Nat.zero_add] at this
        exact this
      have hF2 : ∀ wx, Holds wx ([(g, .cells cur 22 fz)] ++ Fr) → ReadsAt wx 1 (.slice (some ⟨g, 0, none⟩) i cap) i ((s.take i).map (Value.int .u64)) := by
        intro wx hx
        have hh := HR.out.reads hx
        obtain ⟨hl1, A5, c5, hv5, hc51, hc52, hrd5⟩ := hh
        injection hv5 with hv51 _ hv53
        subst hv51; subst hv53
        refine ⟨by simp; omega, _, _, rfl, by omega, by unfold maxLen; omega, fun h0 => ⟨g, 0, rfl, fun j u hu => ?_⟩⟩
        obtain ⟨b5, o5, he5, hcell5⟩ := hrd5 (by omega)
        injection he5 with he5
        injection he5 with e1 e2 _
        subst e1; subst e2
        have hji : j < i := by
          have := (List.getElem?_eq_some_iff.1 hu).1
          simp at this; omega
        rw [List.getElem?_map, List.getElem?_take_of_lt hji] at hu
        exact hcell5 j u (by rw [List.getElem?_map]; exact hu)
      have HF1 := Lib.hid hF1
      have HF2 := Lib.hid hF2
      clear hcat hcac hF1 hF2 hoi2
      go_upto_region 5 with fail
      refine Z_begin (fun wx => True ∧ True) 9 (by kernel_rfl) (fun w1 hd => ⟨trivial, trivial⟩) (fun w1 hd hs => ?_)
      have hHd := (hH1.drewN q).dr hd; have hGd := (hg1.drewN q).trans (Grew.dr hd); clear hd
      refine Z_takeD 0 (some 20) (v := ?_) rfl rfl (by kernel_rfl) (fun _ _ _ h => h) (by rfl) hs ?_ ?_
      rotate_left
      · intro wx hx; obtain ⟨x1, x2⟩ := hx; go_simp; try with_reducible rfl
      simp only [Act.put, List.setIfInBounds_toArray, List.set_cons_succ, List.set_cons_zero]
      refine Z_takeD 1 (some 21) (v := ?_) rfl rfl (by kernel_rfl) (fun _ _ _ h => h) (by rfl) hs ?_ ?_
      rotate_left
      · intro wx hx; obtain ⟨x1, x2⟩ := hx; go_simp; try with_reducible rfl
      simp only [Act.put, List.setIfInBounds_toArray, List.set_cons_succ, List.set_cons_zero]
      refine Z_takeD 2 (some 22) (v := ?_) rfl rfl (by kernel_rfl) (fun _ _ _ h => h) (by rfl) hs ?_ ?_
      rotate_left
      · intro wx hx; obtain ⟨x1, x2⟩ := hx; go_simp; try with_reducible rfl
      simp only [Act.put, List.setIfInBounds_toArray, List.set_cons_succ, List.set_cons_zero]
      refine Z_takeD 3 (some 23) (v := ?_) rfl rfl (by kernel_rfl) (fun _ _ _ h => h) (by rfl) hs ?_ ?_
      rotate_left
      · intro wx hx; obtain ⟨x1, x2⟩ := hx; go_simp; try with_reducible rfl
      simp only [Act.put, List.setIfInBounds_toArray, List.set_cons_succ, List.set_cons_zero]
      refine Z_takeD 4 (some 24) (v := ?_) rfl rfl (by kernel_rfl) (fun _ _ _ h => h) (by rfl) hs ?_ ?_
      rotate_left
      · intro wx hx; obtain ⟨x1, x2⟩ := hx; go_simp; try with_reducible rfl
      simp only [Act.put, List.setIfInBounds_toArray, List.set_cons_succ, List.set_cons_zero]
      refine Z_takeD 5 (some 25) (v := ?_) rfl rfl (by kernel_rfl) (fun _ _ _ h => h) (by rfl) hs ?_ ?_
      rotate_left
      · intro wx hx; obtain ⟨x1, x2⟩ := hx; go_simp; try with_reducible rfl
      simp only [Act.put, List.setIfInBounds_toArray, List.set_cons_succ, List.set_cons_zero]
      refine Z_mid 6 rfl (by kernel_rfl) (fun K hK => ?_)
      have ⟨x1, x2⟩ := hs
      go_simp   -- buildSlice w
      clear x1 x2
      refine hK _ _ (⟨trivial, trivial⟩) (fun hs2 => ?_); clear hK K hs; have hs := hs2; clear hs2
      refine Z_mid 7 rfl (by kernel_rfl) (fun K hK => ?_)
      have ⟨x1, x2⟩ := hs
      go_simp; refine (cat64_any _ _ _ _ (frRows_two HF1.out HF2.out) (hHd.alloc _) (by rw [HC.out]; omega) (by rw [HCC.out]; intro x hx; obtain ⟨y, _, rfl⟩ := List.mem_map.1 hx; rfl)).mono ?_; rintro e w4 ⟨v4, H4, rfl, h4, hH4, hg4⟩; rw [HC.out, HCC.out] at h4; obtain ⟨A4, c4, rfl⟩ := h4.val   -- call w
      clear x1 x2
      refine hK _ _ (⟨trivial, trivial⟩) (fun hs2 => ?_); clear hK K hs; have hs := hs2; clear hs2
      refine Z_takeD 8 (some 7) (v := ?_) rfl rfl (by kernel_rfl) (fun _ _ _ h => h) (by rfl) hs ?_ ?_
      rotate_left
      · intro wx hx; obtain ⟨x1, x2⟩ := hx; go_simp; try with_reducible rfl
      simp only [Act.put, List.setIfInBounds_toArray, List.set_cons_succ, List.set_cons_zero]
      refine Z_done (by kernel_rfl) ?_ _
      clear HC HCC HF1 HF2 hoi HR hic
      have HE2 : Hid (IsWs (.slice A4 s.length c4) (s.drop i ++ s.take i) H4) := Lib.hid (by unfold IsWs; rw [show (s.drop i ++ s.take i).length = s.length by simp; omega]; exact h4)
      obtain ⟨m, hm1, hm2⟩ : ∃ m : Nat, m ≤ s.length ∧ (m : Int) = min many s.length := ⟨(min many s.length).toNat, by omega, by omega⟩
      have HT : Hid (pickU many f zs = (s.drop i ++ s.take i).take m) := Lib.hid (by
        rw [HE.out]
        by_cases h : many ≤ s.length
        · rw [show many.toNat = m by omega]
        · have hl : (s.drop i ++ s.take i).length = s.length := by rw [List.length_append, List.length_drop, List.length_take]; omega
          generalize s.drop i ++ s.take i = l at hl
          rw [show m = s.length by omega, List.take_of_length_le (by omega), List.take_of_length_le (by omega)])
      clear HE
      rcases h4 with ⟨hl4, ⟨hv4, hn4, rfl⟩ | ⟨g4, cap4, cur4, fz4, hv4, hn', hc', hs', ht', hf', rfl⟩⟩
      · injection hv4 with hv41 hv42 hv43
        subst hv41; subst hv43
        have hm0 : m = 0 := by omega
        subst hm0
        have hz : min many (s.length : Int) = 0 := by omega
        have hz2 : (s.length : Int) = 0 := by omega
        have HN := Lib.hid hn4
        have e0 : pickU many f zs = [] := by rw [HT.out]; rfl
        have HE0 := Lib.hid e0
        clear hl4 hv42 HE2 hn4 e0 HT hm2 hm1
        have hz3 : min many (0 : Int) = 0 := by omega
        go_wp2_with fail
        go_ret
        exact ⟨_, [], rfl, by rw [HE0.out]; exact IsRow.nil _ _, hH4.sub (by (repeat' (first | refine sub_append ?_ ?_ | refine sub_cons ?_ ?_ | exact sub_nil)); all_goals first | (intro p hp; simp only [List.mem_append, List.mem_cons, hp, true_or, or_true]) | simp only [List.mem_append, List.mem_cons, true_or, or_true]) (fun b => by simp only [keyc_append, keyc_cons, keyc_nil]; omega), hGd.trans (((Grew.refl _).alloc _).trans hg4)⟩
      · injection hv4 with hv41 hv42 hv43
        subst hv41; subst hv43
        have HTT := Lib.hid ht'
        have HFF := Lib.hid hf'
        clear hl4 hv42 ht' hf' HE2
        rw [Nat.mul_one] at hs'
        unfold maxLen at hc'
        have hmn : min many (s.length : Int) = (m : Int) := hm2.symm
        clear hm2
        go_wp2_with fail
        go_ret
        refine ⟨_, [(g4, .cells cur4 22 fz4)], rfl, ?_, hH4.sub (by (repeat' (first | refine sub_append ?_ ?_ | refine sub_cons ?_ ?_ | exact sub_nil)); all_goals first | (intro p hp; simp only [List.mem_append, List.mem_cons, hp, true_or, or_true]) | simp only [List.mem_append, List.mem_cons, true_or, or_true]) (fun b => by simp only [keyc_append, keyc_cons, keyc_nil]; omega), hGd.trans (((Grew.refl _).alloc _).trans hg4)⟩
        rw [HT.out]
        have hlm : ((s.drop i ++ s.take i).take m).length = m := by rw [List.length_take, List.length_append, List.length_drop, List.length_take]; omega
        unfold IsWs
        rw [hlm]
        refine ⟨by rw [List.length_map, hlm, Nat.mul_one], .inr ⟨g4, c4, cur4, fz4, rfl, by omega, by unfold maxLen; omega, by omega, ?_, HFF.out, rfl⟩⟩
        rw [Nat.mul_one, List.map_take, ← HTT.out, Nat.mul_one, List.take_take, Nat.min_eq_left hm1]

theorem tRuns : SlT Try.prog 26 36 2 16 (.agg #[.int .u64 0, .int .i64 0]) := SlT.mk' (by kernel_rfl) (by kernel_rfl) (by rfl) (by decide)
def runC (r : Int × Int) : List Value := [.int .u64 r.1, .int .i64 r.2]
def IsRuns (v : Value) (rs : List (Int × Int)) (H : HL) : Prop := IsRow 36 2 v rs.length (rs.flatMap runC) H
theorem runC_len (rs : List (Int × Int)) : (rs.flatMap runC).length = rs.length * 2 := by
  induction rs with
  | nil => rfl
  | cons r rs ih => rw [List.flatMap_cons, List.length_append, ih]; simp [runC]; omega
theorem runC_one {rs : List (Int × Int)} : ∀ x ∈ rs.flatMap runC, x.oneCell' = true := by
  intro x hx
  obtain ⟨r, _, hr⟩ := List.mem_flatMap.1 hx
  simp only [runC, List.mem_cons, List.not_mem_nil, or_false] at hr
  rcases hr with rfl | rfl <;> rfl
theorem runC_get : ∀ (rs : List (Int × Int)) (i : Nat) (h : i < rs.length), (rs.flatMap runC)[i * 2]? = some (.int .u64 rs[i].1) ∧ (rs.flatMap runC)[i * 2 + 1]? = some (.int .i64 rs[i].2)
  | r :: rs, 0, _ => by simp [runC]
  | r :: rs, i + 1, h => by
    have ih := runC_get rs i (by simpa using h)
    rw [List.flatMap_cons, show (i + 1) * 2 = (i * 2) + 1 + 1 by omega]
    simpa [runC] using ih
theorem runC_last (ys : List (Int × Int)) (r : Int × Int) (u : Int) : ((ys ++ [r]).flatMap runC).set (ys.length * 2 + 1) (.int .i64 u) = (ys ++ [(r.1, u)]).flatMap runC := by
  rw [List.flatMap_append, List.flatMap_append, List.set_append_right _ _ (by rw [runC_len]; omega), runC_len]
  simp [runC]

/-- Runs, in the midst -/
def RunsTo (s : List Int) (w : World) (Fr : HL) (out i : Value) (wr : World) : Prop :=
  ∃ (k : Nat) (H : HL), k ≤ s.length ∧ i = .int .i64 k ∧ IsRuns out (runsU (s.take k)) H ∧ Holds wr (H ++ Fr) ∧ Grew w wr
theorem runs_bd (s : List Int) (hi : Inc s) (hu : U64s s) : ∀ r ∈ runsU s, 0 ≤ r.1 ∧ r.1 < 18446744073709551616 ∧ 1 ≤ r.2 ∧ r.2 ≤ s.length := by
  intro r hr
  have h := run_inv _ s rfl hi hu
  have hp := h.pos r hr
  have hm : r.1 ∈ s := by
    rw [← h.exp]
    refine List.mem_flatMap.2 ⟨r, hr, ?_⟩
    simp only [expR, List.mem_map, List.mem_range]
    exact ⟨0, by omega, by simp⟩
  have hl : (expR r).length ≤ (( runsU s).flatMap expR).length := by
    obtain ⟨a, b, e⟩ := List.append_of_mem hr
    rw [e, List.flatMap_append, List.flatMap_cons]
    simp only [List.length_append]
    omega
  rw [h.exp] at hl
  simp only [expR, List.length_map, List.length_range] at hl
  have := hu _ hm
  omega
theorem exp_len : ∀ (rs : List (Int × Int)), (∀ r ∈ rs, 1 ≤ r.2) → rs.length ≤ (rs.flatMap expR).length
  | [], _ => by simp
  | r :: rs, h => by
    have h1 := h r List.mem_cons_self
    have ih := exp_len rs fun q hq => h q (List.mem_cons_of_mem _ hq)
    rw [List.flatMap_cons, List.length_append, List.length_cons]
    have : (expR r).length = r.2.toNat := by simp [expR]
    omega
theorem runs_len (s : List Int) (hi : Inc s) (hu : U64s s) : (runsU s).length ≤ s.length := by
  have h := run_inv _ s rfl hi hu
  have := exp_len _ h.pos
  rw [h.exp] at this
  exact this
set_option maxRecDepth 20000 in
set_option maxHeartbeats 1000000 in
theorem runs_any (v : Value) (zs : List Int) (w : World) (Fr : HL) (hv : WsAt w v zs) (hH : Holds w Fr) (hsm : zs.length ≤ 1000000) (hu : U64s zs) :
    Calls Try.prog 9 #[v] w (RetNew (fun v' H' => IsRuns v' (runsU (onceU zs)) H') w Fr) := by
  have HO := Lib.hid (once_any v zs w Fr hv hH hsm)
  obtain ⟨_, A, c, rfl, _⟩ := hv
  have hls := onceU_len zs
  have HI := Lib.hid (onceU_inc zs)
  have HU := Lib.hid hu.once
  generalize onceU zs = s at *
  go_enter Try.func9, Try.ntmps9
  go_wp2_with fail
  refine HO.out.mono ?_
  rintro e w1 ⟨v1, H1, rfl, h1, hH1, hg1⟩
  clear HO hu
  have HRD := Lib.hid (fun (wx : World) (F : HL) (hx : Holds wx (H1 ++ F)) => (h1.at_ hx))
  obtain ⟨A1, c1, rfl⟩ := h1.val
  clear h1
  go_wp2_with fail
  go_loopw [3, 10] (fun out i wr => RunsTo s w (H1 ++ Fr) out i wr) (fun _ i _ => s.length - (intOf i).toNat)
  case atStart => exact ⟨0, [], by omega, rfl, IsRow.nil _ _, hH1, hg1⟩
  case round =>
    obtain ⟨k, H, hk, rfl, hr, hHr, hgr⟩ := hrel
    have HR := Lib.hid hr
    obtain ⟨A2, c2, rfl⟩ := hr.val
    by_cases hlt : k < s.length
    · have hrd := HRD.out wr _ hHr.comm.assoc
      obtain ⟨_, A3, c3, hv3, _, hc33, hrd3⟩ := hrd
      injection hv3 with hv31 _ hv33
      subst hv31; subst hv33
      obtain ⟨b, o, rfl, hcl⟩ := hrd3 (by omega)
      have ca := hcl k (.int .u64 s[k]) (by rw [List.getElem?_map, List.getElem?_eq_getElem hlt]; rfl)
      have hst : s.take (k + 1) = s.take k ++ [s[k]] := List.take_succ_eq_append_getElem hlt
      have HST : Hid (runsU (s.take (k + 1)) = runStep (runsU (s.take k)) s[k]) := Lib.hid (by rw [hst, runsU_snoc])
      have hi1 : Inc (s.take k) := HI.out.sublist (List.take_sublist _ _)
      have hu1 : U64s (s.take k) := fun x hx => HU.out x (List.mem_of_mem_take hx)
      have hlr := runs_len _ hi1 hu1
      have HBD := Lib.hid (runs_bd _ hi1 hu1)
      rw [List.length_take] at hlr
      clear hst hcl hrd3 hi1 hu1 hr hc33
      generalize s[k] = a at *
      generalize runsU (s.take k) = rs at *
      cases hrl : rs.getLast? with
      | none =>
        obtain rfl : rs = [] := by simpa using hrl
        have HE : Hid (runsU (s.take (k + 1)) = [] ++ [(a, 1)]) := Lib.hid (by rw [HST.out]; rfl)
        clear hrl HST HBD hlr
        have HR' : Hid (IsRow 36 2 (.slice A2 0 c2) 0 [] H) := HR.out
        clear HR
        go_wp2_with fail
        go_quiet (fail)
        go_wp2_with (at_builtin; refine wpList_append_T tRuns (by rfl) (.tmp 45) (.tmp 48) (by rfl) (by rfl) (by rfl) HR'.out ((hHr.drewN nq).alloc' _) (ReadsAt.many (w := wr.drewN nq) (n := 1) (size := 2) (cs := #[.int .u64 a, .int .i64 1]) (by rfl) (by simp [maxLen])) (by simp [Value.oneCell']) (by simp [maxLen]) (by omega) ?_; intro A' c' w' H' hrow hH3 hg3)
        exact ⟨⟨k + 1, H', by omega, by go_num, by rw [HE.out]; exact hrow, hH3, ((hgr.drewN nq).alloc _).trans hg3⟩, by simp [intOf]; omega⟩
      | some r =>
        obtain ⟨ys, rfl⟩ := List.getLast?_eq_some_iff.1 hrl
        have hbr := HBD.out r (by simp)
        obtain ⟨r1, r2⟩ := r
        simp only at hbr
        have hyl : (ys ++ [(r1, r2)]).length = ys.length + 1 := by simp
        have hget := runC_get (ys ++ [(r1, r2)]) ys.length (by simp)
        have HR' : Hid (IsRow 36 2 (.slice A2 (ys.length + 1) c2) (ys.length + 1) ((ys ++ [(r1, r2)]).flatMap runC) H) := Lib.hid (by have := HR.out; unfold IsRuns at this; rw [hyl] at this; exact this)
        obtain ⟨g, cap, hv, hnc, hcm, hgl, hcell, hfro, hset⟩ := HR'.out.cell hHr (j := ys.length * 2 + 1) (by rw [runC_len, hyl]; omega)
        obtain ⟨g', cap', hv', _, _, _, hcell', _, _⟩ := HR'.out.cell hHr (j := ys.length * 2) (by rw [runC_len, hyl]; omega)
        injection hv with hv1 _ hv3
        subst hv1; subst hv3
        injection hv' with hv1 _ hv3
        injection hv1 with hv1
        injection hv1 with hv1 _ _
        subst hv1; subst hv3
        have HS := Lib.hid hset
        have hg2 : (ys ++ [(r1, r2)])[ys.length]'(by simp) = (r1, r2) := by simp
        rw [hg2] at hget
        rw [(List.getElem?_eq_some_iff.1 hget.2).2] at hcell
        rw [(List.getElem?_eq_some_iff.1 hget.1).2] at hcell'
        rw [hyl] at hlr
        unfold maxLen at hcm
        clear hset hget HR HBD hg2
        rw [hyl]
        generalize hm : ys.length = m at *
        have hww : IntKind.u64.wrap (r1 + IntKind.u64.wrap r2) = (r1 + r2) % 18446744073709551616 := by rw [IntKind.wrap_u64, IntKind.wrap_u64]; omega
        by_cases hc : (r1 + r2) % 18446744073709551616 = a
        · have HE : Hid (runsU (s.take (k + 1)) = ys ++ [(r1, r2 + 1)]) := Lib.hid (by rw [HST.out]; unfold runStep; rw [hrl]; simp only [hc, if_true, List.dropLast_concat])
          clear HST hrl HRD
          have hb2 : (IntKind.u64.wrap (r1 + IntKind.u64.wrap r2) == a) = true := by rw [hww]; simpa using hc
          clear hww hc
          go_wp2_with fail
          go_quiet (fail)
          go_wp2_with fail
          obtain ⟨H3, hr3, hh3⟩ := HS.out (wr.drewN nq) _ (hHr.drewN nq) (.int .i64 (r2 + 1))
          rw [List.length_take] at hbr
          have hwr : wrap64 (r2 + 1) = r2 + 1 := by unfold wrap64; omega
          rw [hwr]
          have hl3 : (ys ++ [(r1, r2 + 1)]).length = m + 1 := by simp [hm]
          rw [← hm, runC_last] at hr3
          exact ⟨⟨k + 1, H3, by omega, by go_num, by rw [HE.out]; unfold IsRuns; rw [hl3]; rw [hm] at hr3; exact hr3, hm ▸ hh3, (hgr.drewN nq).setCell _ _⟩, by simp [intOf]; omega⟩
        · have HE : Hid (runsU (s.take (k + 1)) = (ys ++ [(r1, r2)]) ++ [(a, 1)]) := Lib.hid (by rw [HST.out]; unfold runStep; rw [hrl]; simp only [hc, if_false])
          clear HST hrl HRD
          have hb2 : (IntKind.u64.wrap (r1 + IntKind.u64.wrap r2) == a) = false := by rw [hww]; simpa using hc
          clear hww hc
          go_wp2_with fail
          go_quiet (fail)
          go_wp2_with (at_builtin; refine wpList_append_T tRuns (by rfl) (.tmp 45) (.tmp 48) (by rfl) (by rfl) (by rfl) HR'.out ((hHr.drewN nq).alloc' _) (ReadsAt.many (w := wr.drewN nq) (n := 1) (size := 2) (cs := #[.int .u64 a, .int .i64 1]) (by rfl) (by simp [maxLen])) (by simp [Value.oneCell']) (by simp [maxLen]; omega) (by omega) ?_; intro A' c' w' H' hrow hH3 hg3)
          have hl3 : (ys ++ [(r1, r2)] ++ [(a, 1)]).length = m + 1 + 1 := by simp [hm]
          exact ⟨⟨k + 1, H', by omega, by go_num, by rw [HE.out]; unfold IsRuns; rw [hl3, List.flatMap_append]; exact hrow, hH3, ((hgr.drewN nq).alloc _).trans hg3⟩, by simp [intOf]; omega⟩
    · have hkl : k = s.length := by omega
      subst hkl
      rw [List.take_of_length_le (Nat.le_refl _)] at HR
      clear hr
      go_wp2_with fail
      go_ret
      exact ⟨_, H, rfl, by rw [List.take_of_length_le (Nat.le_refl _)]; exact HR.out, hHr.sub (by (repeat' (first | refine sub_append ?_ ?_ | refine sub_cons ?_ ?_ | exact sub_nil)); all_goals first | (intro p hp; simp only [List.mem_append, List.mem_cons, hp, true_or, or_true]) | simp only [List.mem_append, List.mem_cons, true_or, or_true]) (fun b => by simp only [keyc_append, keyc_cons, keyc_nil]; omega), hgr⟩
end Go.Proofs.Ytdbcmjambajffaa
