/-
  sculleryref22: Sorted, Pick, Runs, Over, Behind.
-/
import Derived.Test.YtdbcmjambajffaaL22R
namespace Go.Proofs.Ytdbcmjambajffaa
open Go.RowKit
set_option linter.unusedSimpArgs false
set_option linter.unusedVariables false

theorem once_nil : onceU [] = [] := onceU_eq (by simp) (by simp)
/-- one is put in -/
theorem ins_inc {s : List Int} (hs : Inc s) {k : Nat} {x : Int} (h1 : ∀ j (h : j < s.length), k ≤ j → x < s[j]) (h2 : ∀ j (h : j < s.length), j < k → s[j] < x) : Inc (s.take k ++ [x] ++ s.drop k) := by
  have ha : Inc (s.take k) := hs.sublist (List.take_sublist _ _)
  have hb : Inc (s.drop k) := hs.sublist (List.drop_sublist _ _)
  have hta : ∀ y ∈ s.take k, y < x := by
    intro y hy
    obtain ⟨j, hj, rfl⟩ := List.mem_iff_getElem.1 hy
    rw [List.getElem_take]
    rw [List.length_take] at hj
    exact h2 j (by omega) (by omega)
  have hdb : ∀ y ∈ s.drop k, x < y := by
    intro y hy
    obtain ⟨j, hj, rfl⟩ := List.mem_iff_getElem.1 hy
    rw [List.getElem_drop]
    rw [List.length_drop] at hj
    exact h1 (k + j) (by omega) (by omega)
  refine List.pairwise_append.2 ⟨List.pairwise_append.2 ⟨ha, by simp, fun a h b hb => ?_⟩, hb, fun a h b hb => ?_⟩
  · rw [List.mem_singleton.1 hb]; exact hta a h
  · rcases List.mem_append.1 h with h | h
    · have := hta a h; have := hdb b hb; omega
    · rw [List.mem_singleton.1 h]; exact hdb b hb
theorem once_ins {zs : List Int} {i : Nat} (hi : i < zs.length) {k : Nat} (h1 : ∀ j (h : j < (onceU (zs.take i)).length), k ≤ j → zs[i] < (onceU (zs.take i))[j])
    (h2 : ∀ j (h : j < (onceU (zs.take i)).length), j < k → (onceU (zs.take i))[j] < zs[i]) : onceU (zs.take (i + 1)) = (onceU (zs.take i)).take k ++ [zs[i]] ++ (onceU (zs.take i)).drop k := by
  refine onceU_eq (ins_inc (onceU_inc _) h1 h2) fun y => ?_
  have hm : y ∈ onceU (zs.take i) ↔ y ∈ zs.take i := mem_onceU
  have hd : y ∈ onceU (zs.take i) ↔ y ∈ (onceU (zs.take i)).take k ∨ y ∈ (onceU (zs.take i)).drop k := by
    rw [← List.mem_append, List.take_append_drop]
  rw [List.take_succ_eq_append_getElem hi, List.mem_append, List.mem_append, List.mem_append, ← hm, hd]
  constructor
  · rintro ((h | h) | h)
    · exact .inl (.inl h)
    · exact .inr h
    · exact .inl (.inr h)
  · rintro ((h | h) | h)
    · exact .inl (.inl h)
    · exact .inr h
    · exact .inl (.inr h)
theorem once_has {zs : List Int} {i : Nat} (hi : i < zs.length) (h : zs[i] ∈ onceU (zs.take i)) : onceU (zs.take (i + 1)) = onceU (zs.take i) := by
  refine onceU_eq (onceU_inc _) fun y => ?_
  rw [mem_onceU, List.take_succ_eq_append_getElem hi, List.mem_append, List.mem_singleton]
  constructor
  · exact .inl
  · rintro (h2 | rfl)
    · exact h2
    · exact mem_onceU.1 h
theorem Holds.into2 {w : World} {p : Nat × Obj} {A R : HL} (h : Holds w (p :: (A ++ (([] : HL) ++ R)))) : Holds w (A ++ ([p] ++ R)) := by
  rw [List.nil_append] at h
  exact h.sub (by (repeat' (first | refine sub_append ?_ ?_ | refine sub_cons ?_ ?_ | exact sub_nil)); all_goals first | (intro p hp; simp only [List.mem_append, List.mem_cons, hp, true_or, or_true]) | simp only [List.mem_append, List.mem_cons, true_or, or_true]) (fun b => by simp only [keyc_append, keyc_cons, keyc_nil]; omega)

def SortedTo (zs : List Int) (w : World) (Fr : HL) (ov iv : Value) (wr : World) : Prop :=
  ∃ (i : Nat) (H : HL), i ≤ zs.length ∧ iv = .int .i64 i ∧ IsWs ov (onceU (zs.take i)) H ∧ Holds wr (H ++ Fr) ∧ Grew w wr
def KTo (s : List Int) (x : Int) (wA : World) (kv : Value) (wr : World) : Prop :=
  ∃ k m : Nat, k ≤ s.length ∧ kv = .int .i64 k ∧ wr = wA.drewN m ∧ ∀ j (h : j < s.length), k ≤ j → x < s[j]

set_option maxRecDepth 20000 in
set_option maxHeartbeats 2000000 in
theorem r22sorted_any (v : Value) (zs : List Int) (w : World) (Fr : HL) (hv : ∀ wx, Holds wx Fr → WsAt wx v zs) (hH : Holds w Fr) (hsm : zs.length ≤ 1000000) :
    Calls Try.prog 22 #[v] w (RetNew (fun v' H' => IsWs v' (onceU zs) H') w Fr) := by
  obtain ⟨_, A, c, rfl, _⟩ := hv w hH
  have HV := Lib.hid hv
  clear hv
  go_enter Try.func22, Try.ntmps22
  go_wp2_with fail
  go_loopw [3, 4, 5] (fun ov iv kv wr => SortedTo zs w Fr ov iv wr) (fun _ iv _ _ => zs.length - (intOf iv).toNat)
  case atStart => exact ⟨0, [], by omega, rfl, by rw [List.take_zero, once_nil]; exact IsRow.nil _ _, hH, Grew.refl w⟩
  case round =>
    obtain ⟨i, H, hi, rfl, hs, hHr, hgr⟩ := hrel
    have HSR := Lib.hid hs
    obtain ⟨A2, c2, rfl⟩ := hs.val
    clear hs
    by_cases hlt : i < zs.length
    · obtain ⟨_, A3, c3, hv3, _, hc33, hrd3⟩ := HV.out wr hHr.right
      injection hv3 with hv31 hv32 hv33
      subst hv31; subst hv33
      clear hv32
      obtain ⟨b, o, rfl, hcl⟩ := hrd3 (by omega)
      clear hcl hrd3 hc33
      have HZC := Lib.hid (fun (wx : World) (hx : Holds wx Fr) => (show wx.cell? ⟨b, o + i, none⟩ = some (.int .u64 zs[i]) from by
        obtain ⟨_, A3, c3, hv3, _, hc33, hrd3⟩ := HV.out wx hx
        injection hv3 with hv31 hv32 hv33
        subst hv31
        obtain ⟨b', o', he, hcl⟩ := hrd3 (by omega)
        injection he with he
        injection he with e1 e2 _
        subst e1; subst e2
        exact hcl i _ (by rw [List.getElem?_map, List.getElem?_eq_getElem hlt]; rfl)))
      have HINS := Lib.hid (fun k => once_ins (k := k) hlt)
      have HHAS := Lib.hid (once_has hlt)
      have HI := Lib.hid (onceU_inc (zs.take i))
      have hsl : (onceU (zs.take i)).length ≤ i := by have := onceU_len (zs.take i); rw [List.length_take] at this; omega
      generalize onceU (zs.take i) = s at *
      generalize zs[i] = x at *
      obtain ⟨wA, hwA⟩ : ∃ x, x = wr := ⟨wr, rfl⟩
      subst hwA
      have c0 := HZC.out wA hHr.right
      go_wp2_with fail
      go_loopw [5] (fun kv wr => KTo s x wA kv wr) (fun kv _ => (intOf kv).toNat)
      case atStart => exact ⟨s.length, 0, by omega, rfl, rfl, fun j h1 h2 => by omega⟩
      case round =>
        obtain ⟨k, m, hk, rfl, rfl, hgt⟩ := hrel
        rcases Nat.eq_zero_or_pos k with h0 | h0
        · -- nothing is left
          have e0 : decide ((0 : Int) < (k : Int)) = false := decide_eq_false (by omega)
          have e1 : decide (0 < k) = false := decide_eq_false (by omega)
          have e2 : ((k : Int) == 0) = true := by subst h0; rfl
          have HK0 := Lib.hid h0
          have HGT := Lib.hid hgt
          clear hgt h0
          go_upto_region 6 with fail
          refine Z_begin (fun wx => True ∧ True) 14 (by kernel_rfl) (fun w1 hd => ⟨trivial, trivial⟩) (fun w1 hd hs => ?_)
          obtain ⟨nq, rfl⟩ := hd
          refine Z_takeD 0 (some 14) (v := ?_) rfl rfl (by kernel_rfl) (fun _ _ _ h => h) (by rfl) hs ?_ ?_
          rotate_left
          · intro wx hx; obtain ⟨s1, s2⟩ := hx; go_simp; try with_reducible rfl
          simp only [Act.put, List.setIfInBounds_toArray, List.set_cons_succ, List.set_cons_zero]
          refine Z_takeD 1 (some 15) (v := ?_) rfl rfl (by kernel_rfl) (fun _ _ _ h => h) (by rfl) hs ?_ ?_
          rotate_left
          · intro wx hx; obtain ⟨s1, s2⟩ := hx; go_simp; try with_reducible rfl
          simp only [Act.put, List.setIfInBounds_toArray, List.set_cons_succ, List.set_cons_zero]
          refine Z_takeD 2 (some 16) (v := ?_) rfl rfl (by kernel_rfl) (fun _ _ _ h => h) (by rfl) hs ?_ ?_
          rotate_left
          · intro wx hx; obtain ⟨s1, s2⟩ := hx; go_simp; try with_reducible rfl
          simp only [Act.put, List.setIfInBounds_toArray, List.set_cons_succ, List.set_cons_zero]
          refine Z_skipD 3 (some 17) rfl rfl (by kernel_rfl) (fun _ _ _ h => h) (by rfl) hs ?_
          simp only [Act.put, List.setIfInBounds_toArray, List.set_cons_succ, List.set_cons_zero]
          refine Z_skipD 4 (some 18) rfl rfl (by kernel_rfl) (fun _ _ _ h => h) (by rfl) hs ?_
          simp only [Act.put, List.setIfInBounds_toArray, List.set_cons_succ, List.set_cons_zero]
          refine Z_skipD 5 (some 19) rfl rfl (by kernel_rfl) (fun _ _ _ h => h) (by rfl) hs ?_
          simp only [Act.put, List.setIfInBounds_toArray, List.set_cons_succ, List.set_cons_zero]
          refine Z_skipD 6 (some 20) rfl rfl (by kernel_rfl) (fun _ _ _ h => h) (by rfl) hs ?_
          simp only [Act.put, List.setIfInBounds_toArray, List.set_cons_succ, List.set_cons_zero]
          refine Z_skipD 7 (some 21) rfl rfl (by kernel_rfl) (fun _ _ _ h => h) (by rfl) hs ?_
          simp only [Act.put, List.setIfInBounds_toArray, List.set_cons_succ, List.set_cons_zero]
          refine Z_skipD 8 (some 22) rfl rfl (by kernel_rfl) (fun _ _ _ h => h) (by rfl) hs ?_
          simp only [Act.put, List.setIfInBounds_toArray, List.set_cons_succ, List.set_cons_zero]
          refine Z_skipD 9 (some 23) rfl rfl (by kernel_rfl) (fun _ _ _ h => h) (by rfl) hs ?_
          simp only [Act.put, List.setIfInBounds_toArray, List.set_cons_succ, List.set_cons_zero]
          refine Z_skipD 10 (some 24) rfl rfl (by kernel_rfl) (fun _ _ _ h => h) (by rfl) hs ?_
          simp only [Act.put, List.setIfInBounds_toArray, List.set_cons_succ, List.set_cons_zero]
          refine Z_skipD 11 (some 25) rfl rfl (by kernel_rfl) (fun _ _ _ h => h) (by rfl) hs ?_
          simp only [Act.put, List.setIfInBounds_toArray, List.set_cons_succ, List.set_cons_zero]
          refine Z_skipD 12 (some 26) rfl rfl (by kernel_rfl) (fun _ _ _ h => h) (by rfl) hs ?_
          simp only [Act.put, List.setIfInBounds_toArray, List.set_cons_succ, List.set_cons_zero]
          refine Z_takeD 13 (some 27) (v := ?_) rfl rfl (by kernel_rfl) (fun _ _ _ h => h) (by rfl) hs ?_ ?_
          rotate_left
          · intro wx hx; obtain ⟨s1, s2⟩ := hx; go_simp; try with_reducible rfl
          simp only [Act.put, List.setIfInBounds_toArray, List.set_cons_succ, List.set_cons_zero]
          refine Z_done (by kernel_rfl) ?_ _
          go_upto_region 8 with fail
          go_cut [43] (fun bv wx => bv = .bool true ∧ ∃ m, wx = wA.drewN m)
          case first =>
            refine Z_begin (fun wx => True ∧ True) 14 (by kernel_rfl) (fun w1 hd => ⟨trivial, trivial⟩) (fun w1 hd hs => ?_)
            obtain ⟨nq, rfl⟩ := hd
            refine Z_takeD 0 (some 30) (v := ?_) rfl rfl (by kernel_rfl) (fun _ _ _ h => h) (by rfl) hs ?_ ?_
            rotate_left
            · intro wx hx; obtain ⟨s1, s2⟩ := hx; go_simp; try with_reducible rfl
            simp only [Act.put, List.setIfInBounds_toArray, List.set_cons_succ, List.set_cons_zero]
            refine Z_takeD 1 (some 31) (v := ?_) rfl rfl (by kernel_rfl) (fun _ _ _ h => h) (by rfl) hs ?_ ?_
            rotate_left
            · intro wx hx; obtain ⟨s1, s2⟩ := hx; go_simp; try with_reducible rfl
            simp only [Act.put, List.setIfInBounds_toArray, List.set_cons_succ, List.set_cons_zero]
            refine Z_takeD 2 (some 32) (v := ?_) rfl rfl (by kernel_rfl) (fun _ _ _ h => h) (by rfl) hs ?_ ?_
            rotate_left
            · intro wx hx; obtain ⟨s1, s2⟩ := hx; go_simp; try with_reducible rfl
            simp only [Act.put, List.setIfInBounds_toArray, List.set_cons_succ, List.set_cons_zero]
            refine Z_skipD 3 (some 33) rfl rfl (by kernel_rfl) (fun _ _ _ h => h) (by rfl) hs ?_
            simp only [Act.put, List.setIfInBounds_toArray, List.set_cons_succ, List.set_cons_zero]
            refine Z_skipD 4 (some 34) rfl rfl (by kernel_rfl) (fun _ _ _ h => h) (by rfl) hs ?_
            simp only [Act.put, List.setIfInBounds_toArray, List.set_cons_succ, List.set_cons_zero]
            refine Z_skipD 5 (some 35) rfl rfl (by kernel_rfl) (fun _ _ _ h => h) (by rfl) hs ?_
            simp only [Act.put, List.setIfInBounds_toArray, List.set_cons_succ, List.set_cons_zero]
            refine Z_skipD 6 (some 36) rfl rfl (by kernel_rfl) (fun _ _ _ h => h) (by rfl) hs ?_
            simp only [Act.put, List.setIfInBounds_toArray, List.set_cons_succ, List.set_cons_zero]
            refine Z_skipD 7 (some 37) rfl rfl (by kernel_rfl) (fun _ _ _ h => h) (by rfl) hs ?_
            simp only [Act.put, List.setIfInBounds_toArray, List.set_cons_succ, List.set_cons_zero]
            refine Z_skipD 8 (some 38) rfl rfl (by kernel_rfl) (fun _ _ _ h => h) (by rfl) hs ?_
            simp only [Act.put, List.setIfInBounds_toArray, List.set_cons_succ, List.set_cons_zero]
            refine Z_skipD 9 (some 39) rfl rfl (by kernel_rfl) (fun _ _ _ h => h) (by rfl) hs ?_
            simp only [Act.put, List.setIfInBounds_toArray, List.set_cons_succ, List.set_cons_zero]
            refine Z_skipD 10 (some 40) rfl rfl (by kernel_rfl) (fun _ _ _ h => h) (by rfl) hs ?_
            simp only [Act.put, List.setIfInBounds_toArray, List.set_cons_succ, List.set_cons_zero]
            refine Z_skipD 11 (some 41) rfl rfl (by kernel_rfl) (fun _ _ _ h => h) (by rfl) hs ?_
            simp only [Act.put, List.setIfInBounds_toArray, List.set_cons_succ, List.set_cons_zero]
            refine Z_skipD 12 (some 42) rfl rfl (by kernel_rfl) (fun _ _ _ h => h) (by rfl) hs ?_
            simp only [Act.put, List.setIfInBounds_toArray, List.set_cons_succ, List.set_cons_zero]
            refine Z_takeD 13 (some 43) (v := ?_) rfl rfl (by kernel_rfl) (fun _ _ _ h => h) (by rfl) hs ?_ ?_
            rotate_left
            · intro wx hx; obtain ⟨s1, s2⟩ := hx; go_simp; try with_reducible rfl
            simp only [Act.put, List.setIfInBounds_toArray, List.set_cons_succ, List.set_cons_zero]
            refine Z_done (by kernel_rfl) ?_ _
            go_wp2_with fail
            go_meet
            exact ⟨rfl, _, by first | rfl | exact drewN2 _ _ _ | (rw [drewN2, drewN2])⟩
          case rest =>
            obtain ⟨rfl, m2, rfl⟩ := hcut
            have HE := Lib.hid (HINS.out k HGT.out (fun j _ h2 => by have := HK0.out; omega))
            clear HINS HHAS HGT HK0 e0 e1 e2
            obtain ⟨hl4, ⟨hv4, hn4, rfl⟩ | ⟨g, cap, cur, fz, hv4, hn4, hc4, hs4, ht4, hf4, rfl⟩⟩ := HSR.out
            · injection hv4 with hv41 hv42 hv43
              subst hv41; subst hv43
              obtain rfl : s = [] := List.eq_nil_of_length_eq_zero hn4
              have hk0 : k = 0 := by simpa using hk
              subst hk0
              have HF1 := Lib.hid (show ∀ wx (Fx : HL), Holds wx (([] : HL) ++ Fx) → ReadsAt wx 1 (.slice none 0 0) 0 (([] : List Int).map (Value.int .u64)) from fun wx Fx hx => (IsRow.nil 22 1).reads hx)
              clear hn4 hl4 hv42 HI hk
              have hz1 : ([] : List Int).length = 0 := rfl
              have hoC := hHr.drewN m2
              have hoG := hgr.drewN m2
              clear c0
              go_upto_region 9 with fail
              refine Y_begin (fun wx => wx.cell? ⟨b, o + i, none⟩ = some (.int .u64 x) ∧ True) 13 (by kernel_rfl) (fun w1 hd => ⟨HZC.out _ (hoC.dr hd).right, trivial⟩) (fun w1 hd hs => ?_)
              have hC : Holds w1 (([] : HL) ++ (([] : HL) ++ (([] : HL) ++ Fr))) := hoC.dr hd; have hG := hoG.trans (Grew.dr hd); clear hd hoC hoG; obtain ⟨wc, rfl⟩ : ∃ x, x = w1 := ⟨_, rfl⟩
              refine Y_takeT 0 (some 44) (v := ?_) rfl rfl (by kernel_rfl) (fun _ _ _ h => h) (by rfl) hs ?_ ?_
              rotate_left
              · intro wx; go_simp; try with_reducible rfl
              simp only [Act.put, List.setIfInBounds_toArray, List.set_cons_succ, List.set_cons_zero]
              refine Y_takeT 1 (some 45) (v := ?_) rfl rfl (by kernel_rfl) (fun _ _ _ h => h) (by rfl) hs ?_ ?_
              rotate_left
              · intro wx; go_simp; try with_reducible rfl
              simp only [Act.put, List.setIfInBounds_toArray, List.set_cons_succ, List.set_cons_zero]
              refine Y_takeT 2 (some 46) (v := ?_) rfl rfl (by kernel_rfl) (fun _ _ _ h => h) (by rfl) hs ?_ ?_
              rotate_left
              · intro wx; go_simp; try with_reducible rfl
              simp only [Act.put, List.setIfInBounds_toArray, List.set_cons_succ, List.set_cons_zero]
              refine Y_takeT 4 (some 48) (v := ?_) rfl rfl (by kernel_rfl) (fun _ _ _ h => h) (by rfl) hs ?_ ?_
              rotate_left
              · intro wx; go_simp; try with_reducible rfl
              simp only [Act.put, List.setIfInBounds_toArray, List.set_cons_succ, List.set_cons_zero]
              refine Y_takeT 5 (some 49) (v := ?_) rfl rfl (by kernel_rfl) (fun _ _ _ h => h) (by rfl) hs ?_ ?_
              rotate_left
              · intro wx; go_simp; try with_reducible rfl
              simp only [Act.put, List.setIfInBounds_toArray, List.set_cons_succ, List.set_cons_zero]
              refine Y_takeT 6 (some 50) (v := ?_) rfl rfl (by kernel_rfl) (fun _ _ _ h => h) (by rfl) hs ?_ ?_
              rotate_left
              · intro wx; go_simp; try with_reducible rfl
              simp only [Act.put, List.setIfInBounds_toArray, List.set_cons_succ, List.set_cons_zero]
              refine Y_takeD 7 (some 51) (v := ?_) rfl rfl (by kernel_rfl) (fun _ _ _ h => h) (by rfl) hs ?_ ?_
              rotate_left
              · intro wx hx; obtain ⟨x1, x2⟩ := hx; go_simp; try with_reducible rfl
              simp only [Act.put, List.setIfInBounds_toArray, List.set_cons_succ, List.set_cons_zero]
              refine Y_takeT 10 (some 54) (v := ?_) rfl rfl (by kernel_rfl) (fun _ _ _ h => h) (by rfl) hs ?_ ?_
              rotate_left
              · intro wx; go_simp; try with_reducible rfl
              simp only [Act.put, List.setIfInBounds_toArray, List.set_cons_succ, List.set_cons_zero]
              refine Y_takeT 11 (some 55) (v := ?_) rfl rfl (by kernel_rfl) (fun _ _ _ h => h) (by rfl) hs ?_ ?_
              rotate_left
              · intro wx; go_simp; try with_reducible rfl
              simp only [Act.put, List.setIfInBounds_toArray, List.set_cons_succ, List.set_cons_zero]
              refine Y_takeT 12 (some 56) (v := ?_) rfl rfl (by kernel_rfl) (fun _ _ _ h => h) (by rfl) hs ?_ ?_
              rotate_left
              · intro wx; go_simp; try with_reducible rfl
              simp only [Act.put, List.setIfInBounds_toArray, List.set_cons_succ, List.set_cons_zero]
              refine Y_two 3 8 rfl rfl (by kernel_rfl) (fun K hK => ?_) (fun K hK => ?_)
              have ⟨x1, x2⟩ := hs
              refine step_append_T tWs (by rfl) _ _ (by rfl) (by rfl) (by rfl) (IsRow.nil _ _) hC (HF1.out wc _ hC.right.right) (by intro z hz; obtain ⟨q, _, rfl⟩ := List.mem_map.1 hz; rfl) (by unfold maxLen; omega) (by omega) ?_; intro A4 c4 wq H4 hR4 hC4 gg4; rw [Nat.zero_add] at hR4; rw [Nat.zero_add]   -- call
              clear x1 x2
              refine hK _ _ (⟨HZC.out _ hC4.right.right.right, trivial⟩) (fun hs2 => ?_); clear hK K hs; have hs := hs2; clear hs2
              have hG2 := hG.trans gg4; clear hC hG gg4; have hC := hC4; have hG := hG2; clear hC4 hG2; clear wc; obtain ⟨wc, rfl⟩ : ∃ x, x = wq := ⟨_, rfl⟩
              refine Y_mid 8 rfl (by kernel_rfl) (fun K hK => ?_)
              have ⟨x1, x2⟩ := hs
              go_simp   -- buildSlice
              clear x1 x2
              refine hK _ _ (⟨HZC.out _ (Holds.into2 (hC.alloc _)).right.right.right, trivial⟩) (fun hs2 => ?_); clear hK K hs; have hs := hs2; clear hs2
              have hC2 := Holds.into2 (hC.alloc (.cells #[.int .u64 x] 22)); have hG2 := hG.alloc (.cells #[.int .u64 x] 22); clear hC hG; generalize wc.alloc (.cells #[.int .u64 x] 22) = wq at *; generalize wc.heap.size = g8 at *; clear wc; have hC := hC2; have hG := hG2; clear hC2 hG2; obtain ⟨wc, rfl⟩ : ∃ x, x = wq := ⟨_, rfl⟩
              refine Y_mid 9 rfl (by kernel_rfl) (fun K hK => ?_)
              have ⟨x1, x2⟩ := hs
              refine step_append_T tWs (by rfl) _ _ (by rfl) (by rfl) (by rfl) hR4 hC (ReadsAt.of_block (n := 1) (c := 1) (o := 0) (g := g8) (hC.get (b := g8) (o := .cells #[.int .u64 x] 22) (by simp)) [.int .u64 x] rfl (by omega) (by simp [maxLen]) (by intro j u hu; simpa using hu)) (by simp [Value.oneCell']) (by unfold maxLen; omega) (by omega) ?_; intro A9 c9 wq H9 hR9 hC9 gg9   -- call
              clear x1 x2
              refine hK _ _ (⟨HZC.out _ hC9.right.right.right, trivial⟩) (fun hs2 => ?_); clear hK K hs; have hs := hs2; clear hs2
              have hG2 := hG.trans gg9; clear hC hG gg9 hR4; have hC := hC9; have hG := hG2; clear hC9 hG2; clear wc; obtain ⟨wc, rfl⟩ : ∃ x, x = wq := ⟨_, rfl⟩
              rotate_left
              have ⟨x1, x2⟩ := hs
              go_simp   -- buildSlice
              clear x1 x2
              refine hK _ _ (⟨HZC.out _ (Holds.into2 (hC.alloc _)).right.right.right, trivial⟩) (fun hs2 => ?_); clear hK K hs; have hs := hs2; clear hs2
              have hC2 := Holds.into2 (hC.alloc (.cells #[.int .u64 x] 22)); have hG2 := hG.alloc (.cells #[.int .u64 x] 22); clear hC hG; generalize wc.alloc (.cells #[.int .u64 x] 22) = wq at *; generalize wc.heap.size = g8 at *; clear wc; have hC := hC2; have hG := hG2; clear hC2 hG2; obtain ⟨wc, rfl⟩ : ∃ x, x = wq := ⟨_, rfl⟩
              refine Y_mid 3 rfl (by kernel_rfl) (fun K hK => ?_)
              have ⟨x1, x2⟩ := hs
              refine step_append_T tWs (by rfl) _ _ (by rfl) (by rfl) (by rfl) (IsRow.nil _ _) hC (HF1.out wc _ hC.right.right) (by intro z hz; obtain ⟨q, _, rfl⟩ := List.mem_map.1 hz; rfl) (by unfold maxLen; omega) (by omega) ?_; intro A4 c4 wq H4 hR4 hC4 gg4; rw [Nat.zero_add] at hR4; rw [Nat.zero_add]   -- call
              clear x1 x2
              refine hK _ _ (⟨HZC.out _ hC4.right.right.right, trivial⟩) (fun hs2 => ?_); clear hK K hs; have hs := hs2; clear hs2
              have hG2 := hG.trans gg4; clear hC hG gg4; have hC := hC4; have hG := hG2; clear hC4 hG2; clear wc; obtain ⟨wc, rfl⟩ : ∃ x, x = wq := ⟨_, rfl⟩
              refine Y_mid 9 rfl (by kernel_rfl) (fun K hK => ?_)
              have ⟨x1, x2⟩ := hs
              refine step_append_T tWs (by rfl) _ _ (by rfl) (by rfl) (by rfl) hR4 hC (ReadsAt.of_block (n := 1) (c := 1) (o := 0) (g := g8) (hC.get (b := g8) (o := .cells #[.int .u64 x] 22) (by simp)) [.int .u64 x] rfl (by omega) (by simp [maxLen]) (by intro j u hu; simpa using hu)) (by simp [Value.oneCell']) (by unfold maxLen; omega) (by omega) ?_; intro A9 c9 wq H9 hR9 hC9 gg9   -- call
              clear x1 x2
              refine hK _ _ (⟨HZC.out _ hC9.right.right.right, trivial⟩) (fun hs2 => ?_); clear hK K hs; have hs := hs2; clear hs2
              have hG2 := hG.trans gg9; clear hC hG gg9 hR4; have hC := hC9; have hG := hG2; clear hC9 hG2; clear wc; obtain ⟨wc, rfl⟩ : ∃ x, x = wq := ⟨_, rfl⟩
              rotate_left
              all_goals
                refine Y_late 13 rfl (by kernel_rfl) (by kernel_rfl) (fun K hK => ?_)
                have ⟨x1, x2⟩ := hs
                refine step_append_T tWs (by rfl) _ _ (by rfl) (by rfl) (by rfl) hR9 hC (HF1.out wc _ hC.right.right) (by intro z hz; obtain ⟨q, _, rfl⟩ := List.mem_map.1 hz; rfl) (by unfold maxLen; omega) (by omega) ?_; intro A13 c13 wq H13 hR13 hC13 gg13   -- call
                clear x1 x2 hs
                refine hK _ _ ?_; clear hK K
                have hG2 := hG.trans gg13; clear hC hG gg13 hR9; have hC := hC13; have hG := hG2; clear hC13 hG2; clear wc; obtain ⟨wc, rfl⟩ : ∃ x, x = wq := ⟨_, rfl⟩
                refine Y_late 14 rfl (by kernel_rfl) (by kernel_rfl) (fun K hK => ?_)
                go_simp   -- assign
                refine hK _ _ ?_; clear hK K
                refine Y_done (by kernel_rfl) ?_ _
                have HR13 := Lib.hid hR13
                clear hR13
                go_wp2_with fail
                go_roundw
                case rel =>
                  refine ⟨i + 1, H13, by omega, by go_num, ?_, hC.mid.mid, hG⟩
                  rw [HE.out]
                  unfold IsWs
                  have h := HR13.out
                  simpa using h
                case measure => simp [intOf]; omega
            · injection hv4 with hv41 hv42 hv43
              subst hv41; subst hv43
              clear hv42
              rw [Nat.mul_one] at hs4
              unfold maxLen at hc4
              obtain ⟨oi, hoi, hoi2⟩ : ∃ oi, (if c2 = k then some (⟨g, 0, none⟩ : Addr) else some ⟨g, k, none⟩) = some ⟨g, oi, none⟩ ∧ (k < s.length → oi = k) := by
                by_cases h : c2 = k
                · exact ⟨0, by rw [if_pos h], fun h2 => by omega⟩
                · exact ⟨k, by rw [if_neg h], fun _ => rfl⟩
              have hkc : k ≤ c2 := by omega
              have HF1 := Lib.hid (show ∀ wx (Fx : HL), Holds wx ([(g, .cells cur 22 fz)] ++ Fx) → ReadsAt wx 1 (.slice (some ⟨g, 0, none⟩) k c2) k ((s.take k).map (Value.int .u64)) by
                intro wx Fx hx
                obtain ⟨hl1, A5, c5, hv5, hc51, hc52, hrd5⟩ := HSR.out.reads hx
                injection hv5 with hv51 _ hv53
                subst hv51; subst hv53
                refine ⟨by simp; omega, _, _, rfl, by omega, by unfold maxLen; omega, fun h0 => ⟨g, 0, rfl, fun j u hu => ?_⟩⟩
                obtain ⟨b5, o5, he5, hcell5⟩ := hrd5 (by omega)
                injection he5 with he5
                injection he5 with e1 e2 _
                subst e1; subst e2
                have hji : j < k := by
                  have := (List.getElem?_eq_some_iff.1 hu).1
                  simp at this; omega
                rw [List.getElem?_map, List.getElem?_take_of_lt hji] at hu
                exact hcell5 j u (by rw [List.getElem?_map]; exact hu))
              have HF2 := Lib.hid (show ∀ wx (Fx : HL), Holds wx ([(g, .cells cur 22 fz)] ++ Fx) → ReadsAt wx 1 (.slice (some ⟨g, oi, none⟩) (s.length - k) (c2 - k)) (s.length - k) ((s.drop k).map (Value.int .u64)) by
                intro wx Fx hx
                obtain ⟨hl1, A5, c5, hv5, hc51, hc52, hrd5⟩ := HSR.out.reads hx
                injection hv5 with hv51 _ hv53
                subst hv51; subst hv53
                refine ⟨by simp, _, _, rfl, by omega, by unfold maxLen; omega, fun h0 => ⟨g, oi, rfl, fun j u hu => ?_⟩⟩
                obtain ⟨b5, o5, he5, hcell5⟩ := hrd5 (by omega)
                injection he5 with he5
                injection he5 with e1 e2 _
                subst e1; subst e2
                rw [List.getElem?_map, List.getElem?_drop] at hu
                have := hcell5 (k + j) u (by rw [List.getElem?_map]; exact hu)
                rw [hoi2 (by omega)]
                rw [Nat.zero_add] at this
                exact this)
              clear hl4 ht4 hf4 hs4 hoi2
              have hoC := hHr.drewN m2
              have hoG := hgr.drewN m2
              clear c0
              go_upto_region 9 with fail
              refine Y_begin (fun wx => wx.cell? ⟨b, o + i, none⟩ = some (.int .u64 x) ∧ True) 13 (by kernel_rfl) (fun w1 hd => ⟨HZC.out _ (hoC.dr hd).right, trivial⟩) (fun w1 hd hs => ?_)
              have hC : Holds w1 (([] : HL) ++ (([] : HL) ++ ([(g, .cells cur 22 fz)] ++ Fr))) := hoC.dr hd; have hG := hoG.trans (Grew.dr hd); clear hd hoC hoG; obtain ⟨wc, rfl⟩ : ∃ x, x = w1 := ⟨_, rfl⟩
              refine Y_takeT 0 (some 44) (v := ?_) rfl rfl (by kernel_rfl) (fun _ _ _ h => h) (by rfl) hs ?_ ?_
              rotate_left
              · intro wx; go_simp; try with_reducible rfl
              simp only [Act.put, List.setIfInBounds_toArray, List.set_cons_succ, List.set_cons_zero]
              refine Y_takeT 1 (some 45) (v := ?_) rfl rfl (by kernel_rfl) (fun _ _ _ h => h) (by rfl) hs ?_ ?_
              rotate_left
              · intro wx; go_simp; try with_reducible rfl
              simp only [Act.put, List.setIfInBounds_toArray, List.set_cons_succ, List.set_cons_zero]
              refine Y_takeT 2 (some 46) (v := ?_) rfl rfl (by kernel_rfl) (fun _ _ _ h => h) (by rfl) hs ?_ ?_
              rotate_left
              · intro wx; go_simp; try with_reducible rfl
              simp only [Act.put, List.setIfInBounds_toArray, List.set_cons_succ, List.set_cons_zero]
              refine Y_takeT 4 (some 48) (v := ?_) rfl rfl (by kernel_rfl) (fun _ _ _ h => h) (by rfl) hs ?_ ?_
              rotate_left
              · intro wx; go_simp; try with_reducible rfl
              simp only [Act.put, List.setIfInBounds_toArray, List.set_cons_succ, List.set_cons_zero]
              refine Y_takeT 5 (some 49) (v := ?_) rfl rfl (by kernel_rfl) (fun _ _ _ h => h) (by rfl) hs ?_ ?_
              rotate_left
              · intro wx; go_simp; try with_reducible rfl
              simp only [Act.put, List.setIfInBounds_toArray, List.set_cons_succ, List.set_cons_zero]
              refine Y_takeT 6 (some 50) (v := ?_) rfl rfl (by kernel_rfl) (fun _ _ _ h => h) (by rfl) hs ?_ ?_
              rotate_left
              · intro wx; go_simp; try with_reducible rfl
              simp only [Act.put, List.setIfInBounds_toArray, List.set_cons_succ, List.set_cons_zero]
              refine Y_takeD 7 (some 51) (v := ?_) rfl rfl (by kernel_rfl) (fun _ _ _ h => h) (by rfl) hs ?_ ?_
              rotate_left
              · intro wx hx; obtain ⟨x1, x2⟩ := hx; go_simp; try with_reducible rfl
              simp only [Act.put, List.setIfInBounds_toArray, List.set_cons_succ, List.set_cons_zero]
              refine Y_takeT 10 (some 54) (v := ?_) rfl rfl (by kernel_rfl) (fun _ _ _ h => h) (by rfl) hs ?_ ?_
              rotate_left
              · intro wx; go_simp; try with_reducible rfl
              simp only [Act.put, List.setIfInBounds_toArray, List.set_cons_succ, List.set_cons_zero]
              refine Y_takeT 11 (some 55) (v := ?_) rfl rfl (by kernel_rfl) (fun _ _ _ h => h) (by rfl) hs ?_ ?_
              rotate_left
              · intro wx; go_simp; try with_reducible rfl
              simp only [Act.put, List.setIfInBounds_toArray, List.set_cons_succ, List.set_cons_zero]
              refine Y_takeT 12 (some 56) (v := ?_) rfl rfl (by kernel_rfl) (fun _ _ _ h => h) (by rfl) hs ?_ ?_
              rotate_left
              · intro wx; go_simp; try with_reducible rfl
              simp only [Act.put, List.setIfInBounds_toArray, List.set_cons_succ, List.set_cons_zero]
              refine Y_two 3 8 rfl rfl (by kernel_rfl) (fun K hK => ?_) (fun K hK => ?_)
              have ⟨x1, x2⟩ := hs
              refine step_append_T tWs (by rfl) _ _ (by rfl) (by rfl) (by rfl) (IsRow.nil _ _) hC (HF1.out wc _ hC.right.right) (by intro z hz; obtain ⟨q, _, rfl⟩ := List.mem_map.1 hz; rfl) (by unfold maxLen; omega) (by omega) ?_; intro A4 c4 wq H4 hR4 hC4 gg4; rw [Nat.zero_add] at hR4; rw [Nat.zero_add]   -- call
              clear x1 x2
              refine hK _ _ (⟨HZC.out _ hC4.right.right.right, trivial⟩) (fun hs2 => ?_); clear hK K hs; have hs := hs2; clear hs2
              have hG2 := hG.trans gg4; clear hC hG gg4; have hC := hC4; have hG := hG2; clear hC4 hG2; clear wc; obtain ⟨wc, rfl⟩ : ∃ x, x = wq := ⟨_, rfl⟩
              refine Y_mid 8 rfl (by kernel_rfl) (fun K hK => ?_)
              have ⟨x1, x2⟩ := hs
              go_simp   -- buildSlice
              clear x1 x2
              refine hK _ _ (⟨HZC.out _ (Holds.into2 (hC.alloc _)).right.right.right, trivial⟩) (fun hs2 => ?_); clear hK K hs; have hs := hs2; clear hs2
              have hC2 := Holds.into2 (hC.alloc (.cells #[.int .u64 x] 22)); have hG2 := hG.alloc (.cells #[.int .u64 x] 22); clear hC hG; generalize wc.alloc (.cells #[.int .u64 x] 22) = wq at *; generalize wc.heap.size = g8 at *; clear wc; have hC := hC2; have hG := hG2; clear hC2 hG2; obtain ⟨wc, rfl⟩ : ∃ x, x = wq := ⟨_, rfl⟩
              refine Y_mid 9 rfl (by kernel_rfl) (fun K hK => ?_)
              have ⟨x1, x2⟩ := hs
              refine step_append_T tWs (by rfl) _ _ (by rfl) (by rfl) (by rfl) hR4 hC (ReadsAt.of_block (n := 1) (c := 1) (o := 0) (g := g8) (hC.get (b := g8) (o := .cells #[.int .u64 x] 22) (by simp)) [.int .u64 x] rfl (by omega) (by simp [maxLen]) (by intro j u hu; simpa using hu)) (by simp [Value.oneCell']) (by unfold maxLen; omega) (by omega) ?_; intro A9 c9 wq H9 hR9 hC9 gg9   -- call
              clear x1 x2
              refine hK _ _ (⟨HZC.out _ hC9.right.right.right, trivial⟩) (fun hs2 => ?_); clear hK K hs; have hs := hs2; clear hs2
              have hG2 := hG.trans gg9; clear hC hG gg9 hR4; have hC := hC9; have hG := hG2; clear hC9 hG2; clear wc; obtain ⟨wc, rfl⟩ : ∃ x, x = wq := ⟨_, rfl⟩
              rotate_left
              have ⟨x1, x2⟩ := hs
              go_simp   -- buildSlice
              clear x1 x2
              refine hK _ _ (⟨HZC.out _ (Holds.into2 (hC.alloc _)).right.right.right, trivial⟩) (fun hs2 => ?_); clear hK K hs; have hs := hs2; clear hs2
              have hC2 := Holds.into2 (hC.alloc (.cells #[.int .u64 x] 22)); have hG2 := hG.alloc (.cells #[.int .u64 x] 22); clear hC hG; generalize wc.alloc (.cells #[.int .u64 x] 22) = wq at *; generalize wc.heap.size = g8 at *; clear wc; have hC := hC2; have hG := hG2; clear hC2 hG2; obtain ⟨wc, rfl⟩ : ∃ x, x = wq := ⟨_, rfl⟩
              refine Y_mid 3 rfl (by kernel_rfl) (fun K hK => ?_)
              have ⟨x1, x2⟩ := hs
              refine step_append_T tWs (by rfl) _ _ (by rfl) (by rfl) (by rfl) (IsRow.nil _ _) hC (HF1.out wc _ hC.right.right) (by intro z hz; obtain ⟨q, _, rfl⟩ := List.mem_map.1 hz; rfl) (by unfold maxLen; omega) (by omega) ?_; intro A4 c4 wq H4 hR4 hC4 gg4; rw [Nat.zero_add] at hR4; rw [Nat.zero_add]   -- call
              clear x1 x2
              refine hK _ _ (⟨HZC.out _ hC4.right.right.right, trivial⟩) (fun hs2 => ?_); clear hK K hs; have hs := hs2; clear hs2
              have hG2 := hG.trans gg4; clear hC hG gg4; have hC := hC4; have hG := hG2; clear hC4 hG2; clear wc; obtain ⟨wc, rfl⟩ : ∃ x, x = wq := ⟨_, rfl⟩
              refine Y_mid 9 rfl (by kernel_rfl) (fun K hK => ?_)
              have ⟨x1, x2⟩ := hs
              refine step_append_T tWs (by rfl) _ _ (by rfl) (by rfl) (by rfl) hR4 hC (ReadsAt.of_block (n := 1) (c := 1) (o := 0) (g := g8) (hC.get (b := g8) (o := .cells #[.int .u64 x] 22) (by simp)) [.int .u64 x] rfl (by omega) (by simp [maxLen]) (by intro j u hu; simpa using hu)) (by simp [Value.oneCell']) (by unfold maxLen; omega) (by omega) ?_; intro A9 c9 wq H9 hR9 hC9 gg9   -- call
              clear x1 x2
              refine hK _ _ (⟨HZC.out _ hC9.right.right.right, trivial⟩) (fun hs2 => ?_); clear hK K hs; have hs := hs2; clear hs2
              have hG2 := hG.trans gg9; clear hC hG gg9 hR4; have hC := hC9; have hG := hG2; clear hC9 hG2; clear wc; obtain ⟨wc, rfl⟩ : ∃ x, x = wq := ⟨_, rfl⟩
              rotate_left
              all_goals
                refine Y_late 13 rfl (by kernel_rfl) (by kernel_rfl) (fun K hK => ?_)
                have ⟨x1, x2⟩ := hs
                refine step_append_T tWs (by rfl) _ _ (by rfl) (by rfl) (by rfl) hR9 hC (HF2.out wc _ hC.right.right) (by intro z hz; obtain ⟨q, _, rfl⟩ := List.mem_map.1 hz; rfl) (by unfold maxLen; omega) (by omega) ?_; intro A13 c13 wq H13 hR13 hC13 gg13   -- call
                clear x1 x2 hs
                refine hK _ _ ?_; clear hK K
                have hG2 := hG.trans gg13; clear hC hG gg13 hR9; have hC := hC13; have hG := hG2; clear hC13 hG2; clear wc; obtain ⟨wc, rfl⟩ : ∃ x, x = wq := ⟨_, rfl⟩
                refine Y_late 14 rfl (by kernel_rfl) (by kernel_rfl) (fun K hK => ?_)
                go_simp   -- assign
                refine hK _ _ ?_; clear hK K
                refine Y_done (by kernel_rfl) ?_ _
                have HR13 := Lib.hid hR13
                clear hR13
                go_wp2_with fail
                go_roundw
                case rel =>
                  refine ⟨i + 1, H13, by omega, by go_num, ?_, hC.mid.mid, hG⟩
                  rw [HE.out]
                  unfold IsWs
                  have h := HR13.out
                  have hl : (s.take k ++ [x] ++ s.drop k).length = k + 1 + (s.length - k) := by simp; omega
                  rw [hl]
                  simpa using h
                case measure => simp [intOf]; omega
        · have e0 : decide ((0 : Int) < (k : Int)) = true := decide_eq_true (by omega)
          have e1 : decide (0 < k) = true := decide_eq_true (by omega)
          have e2 : ((k : Int) == 0) = false := by simp; omega
          have hkl : k - 1 < s.length := by omega
          have hkm : (k : Int) - 1 = ((k - 1 : Nat) : Int) := by omega
          have hkw : IntKind.i64.wrap ((k - 1 : Nat) : Int) = ((k - 1 : Nat) : Int) := by simp only [IntKind.wrap, IntKind.signed, IntKind.bits]; simp; omega
          obtain ⟨_, A5, c5, hv5, hn5, hc5, hrd5⟩ := HSR.out.at_ hHr
          injection hv5 with hv51 hv52 hv53
          subst hv51; subst hv53
          clear hv52
          obtain ⟨b2, o2, rfl, hcl⟩ := hrd5 (by omega)
          have d0 := hcl (k - 1) (.int .u64 s[k - 1]) (by rw [List.getElem?_map, List.getElem?_eq_getElem hkl]; rfl)
          have HLOW : Hid (∀ j (h : j < s.length), j < k → s[j] ≤ s[k - 1]) := Lib.hid (fun j h h2 => by
            rcases Nat.lt_or_ge j (k - 1) with h3 | h3
            · exact Int.le_of_lt (List.pairwise_iff_getElem.1 HI.out j (k - 1) h hkl h3)
            · have : j = k - 1 := by omega
              subst this; exact Int.le_refl _)
          have HKL : Hid (∀ j (h : j < s.length), k - 1 ≤ j → j = k - 1 ∨ k ≤ j) := Lib.hid (fun j _ h => by omega)
          have HMEM : Hid (s[k - 1] ∈ s) := Lib.hid (List.getElem_mem _)
          have HYY : Hid (∀ j (h : j < s.length), j = k - 1 → s[j] = s[k - 1]) := Lib.hid (fun j h e => by subst e; rfl)
          clear hcl hrd5 hc5 hn5
          generalize s[k - 1] = y at *
          have HGT := Lib.hid hgt
          clear hgt
          by_cases hgo : x < y
          · have f0 : decide (x < y) = true := decide_eq_true hgo
            have HGO := Lib.hid hgo
            clear hgo
            go_upto_region 6 with fail
            refine Z_begin (fun wx => wx.cell? ⟨b, o + i, none⟩ = some (.int .u64 x) ∧ wx.cell? ⟨b2, o2 + (k - 1), none⟩ = some (.int .u64 y)) 14 (by kernel_rfl) (fun w1 hd => by obtain ⟨q, rfl⟩ := hd; exact ⟨c0, d0⟩) (fun w1 hd hs => ?_)
            obtain ⟨nq, rfl⟩ := hd
            refine Z_takeD 0 (some 14) (v := ?_) rfl rfl (by kernel_rfl) (fun _ _ _ h => h) (by rfl) hs ?_ ?_
            rotate_left
            · intro wx hx; obtain ⟨s1, s2⟩ := hx; go_simp; try with_reducible rfl
            simp only [Act.put, List.setIfInBounds_toArray, List.set_cons_succ, List.set_cons_zero]
            refine Z_takeD 1 (some 15) (v := ?_) rfl rfl (by kernel_rfl) (fun _ _ _ h => h) (by rfl) hs ?_ ?_
            rotate_left
            · intro wx hx; obtain ⟨s1, s2⟩ := hx; go_simp; try with_reducible rfl
            simp only [Act.put, List.setIfInBounds_toArray, List.set_cons_succ, List.set_cons_zero]
            refine Z_takeD 2 (some 16) (v := ?_) rfl rfl (by kernel_rfl) (fun _ _ _ h => h) (by rfl) hs ?_ ?_
            rotate_left
            · intro wx hx; obtain ⟨s1, s2⟩ := hx; go_simp; try with_reducible rfl
            simp only [Act.put, List.setIfInBounds_toArray, List.set_cons_succ, List.set_cons_zero]
            refine Z_takeD 3 (some 17) (v := ?_) rfl rfl (by kernel_rfl) (fun _ _ _ h => h) (by rfl) hs ?_ ?_
            rotate_left
            · intro wx hx; obtain ⟨s1, s2⟩ := hx; go_simp; try with_reducible rfl
            simp only [Act.put, List.setIfInBounds_toArray, List.set_cons_succ, List.set_cons_zero]
            refine Z_takeD 4 (some 18) (v := ?_) rfl rfl (by kernel_rfl) (fun _ _ _ h => h) (by rfl) hs ?_ ?_
            rotate_left
            · intro wx hx; obtain ⟨s1, s2⟩ := hx; go_simp; try with_reducible rfl
            simp only [Act.put, List.setIfInBounds_toArray, List.set_cons_succ, List.set_cons_zero]
            refine Z_takeD 5 (some 19) (v := ?_) rfl rfl (by kernel_rfl) (fun _ _ _ h => h) (by rfl) hs ?_ ?_
            rotate_left
            · intro wx hx; obtain ⟨s1, s2⟩ := hx; go_simp; try with_reducible rfl
            simp only [Act.put, List.setIfInBounds_toArray, List.set_cons_succ, List.set_cons_zero]
            refine Z_takeD 6 (some 20) (v := ?_) rfl rfl (by kernel_rfl) (fun _ _ _ h => h) (by rfl) hs ?_ ?_
            rotate_left
            · intro wx hx; obtain ⟨s1, s2⟩ := hx; go_simp; try with_reducible rfl
            simp only [Act.put, List.setIfInBounds_toArray, List.set_cons_succ, List.set_cons_zero]
            refine Z_takeD 7 (some 21) (v := ?_) rfl rfl (by kernel_rfl) (fun _ _ _ h => h) (by rfl) hs ?_ ?_
            rotate_left
            · intro wx hx; obtain ⟨s1, s2⟩ := hx; go_simp; try with_reducible rfl
            simp only [Act.put, List.setIfInBounds_toArray, List.set_cons_succ, List.set_cons_zero]
            refine Z_takeD 8 (some 22) (v := ?_) rfl rfl (by kernel_rfl) (fun _ _ _ h => h) (by rfl) hs ?_ ?_
            rotate_left
            · intro wx hx; obtain ⟨s1, s2⟩ := hx; go_simp; try with_reducible rfl
            simp only [Act.put, List.setIfInBounds_toArray, List.set_cons_succ, List.set_cons_zero]
            refine Z_takeD 9 (some 23) (v := ?_) rfl rfl (by kernel_rfl) (fun _ _ _ h => h) (by rfl) hs ?_ ?_
            rotate_left
            · intro wx hx; obtain ⟨s1, s2⟩ := hx; go_simp; try with_reducible rfl
            simp only [Act.put, List.setIfInBounds_toArray, List.set_cons_succ, List.set_cons_zero]
            refine Z_takeD 10 (some 24) (v := ?_) rfl rfl (by kernel_rfl) (fun _ _ _ h => h) (by rfl) hs ?_ ?_
            rotate_left
            · intro wx hx; obtain ⟨s1, s2⟩ := hx; go_simp; try with_reducible rfl
            simp only [Act.put, List.setIfInBounds_toArray, List.set_cons_succ, List.set_cons_zero]
            refine Z_takeD 11 (some 25) (v := ?_) rfl rfl (by kernel_rfl) (fun _ _ _ h => h) (by rfl) hs ?_ ?_
            rotate_left
            · intro wx hx; obtain ⟨s1, s2⟩ := hx; go_simp; try with_reducible rfl
            simp only [Act.put, List.setIfInBounds_toArray, List.set_cons_succ, List.set_cons_zero]
            refine Z_takeD 12 (some 26) (v := ?_) rfl rfl (by kernel_rfl) (fun _ _ _ h => h) (by rfl) hs ?_ ?_
            rotate_left
            · intro wx hx; obtain ⟨s1, s2⟩ := hx; go_simp; try with_reducible rfl
            simp only [Act.put, List.setIfInBounds_toArray, List.set_cons_succ, List.set_cons_zero]
            refine Z_takeD 13 (some 27) (v := ?_) rfl rfl (by kernel_rfl) (fun _ _ _ h => h) (by rfl) hs ?_ ?_
            rotate_left
            · intro wx hx; obtain ⟨s1, s2⟩ := hx; go_simp; try with_reducible rfl
            simp only [Act.put, List.setIfInBounds_toArray, List.set_cons_succ, List.set_cons_zero]
            refine Z_done (by kernel_rfl) ?_ _
            go_wp2_with fail
            go_roundw
            case rel =>
              refine ⟨k - 1, m + nq, by omega, by go_num, by first | rfl | exact drewN2 _ _ _, fun j h h2 => ?_⟩
              rcases HKL.out j h h2 with h3 | h3
              · rw [HYY.out j h h3]; exact HGO.out
              · exact HGT.out j h h3
            case measure => simp [intOf]; omega
          · have f0 : decide (x < y) = false := decide_eq_false hgo
            have hle : y ≤ x := by omega
            have HLE := Lib.hid hle
            clear hgo hle
            go_upto_region 6 with fail
            refine Z_begin (fun wx => wx.cell? ⟨b, o + i, none⟩ = some (.int .u64 x) ∧ wx.cell? ⟨b2, o2 + (k - 1), none⟩ = some (.int .u64 y)) 14 (by kernel_rfl) (fun w1 hd => by obtain ⟨q, rfl⟩ := hd; exact ⟨c0, d0⟩) (fun w1 hd hs => ?_)
            obtain ⟨nq, rfl⟩ := hd
            refine Z_takeD 0 (some 14) (v := ?_) rfl rfl (by kernel_rfl) (fun _ _ _ h => h) (by rfl) hs ?_ ?_
            rotate_left
            · intro wx hx; obtain ⟨s1, s2⟩ := hx; go_simp; try with_reducible rfl
            simp only [Act.put, List.setIfInBounds_toArray, List.set_cons_succ, List.set_cons_zero]
            refine Z_takeD 1 (some 15) (v := ?_) rfl rfl (by kernel_rfl) (fun _ _ _ h => h) (by rfl) hs ?_ ?_
            rotate_left
            · intro wx hx; obtain ⟨s1, s2⟩ := hx; go_simp; try with_reducible rfl
            simp only [Act.put, List.setIfInBounds_toArray, List.set_cons_succ, List.set_cons_zero]
            refine Z_takeD 2 (some 16) (v := ?_) rfl rfl (by kernel_rfl) (fun _ _ _ h => h) (by rfl) hs ?_ ?_
            rotate_left
            · intro wx hx; obtain ⟨s1, s2⟩ := hx; go_simp; try with_reducible rfl
            simp only [Act.put, List.setIfInBounds_toArray, List.set_cons_succ, List.set_cons_zero]
            refine Z_takeD 3 (some 17) (v := ?_) rfl rfl (by kernel_rfl) (fun _ _ _ h => h) (by rfl) hs ?_ ?_
            rotate_left
            · intro wx hx; obtain ⟨s1, s2⟩ := hx; go_simp; try with_reducible rfl
            simp only [Act.put, List.setIfInBounds_toArray, List.set_cons_succ, List.set_cons_zero]
            refine Z_takeD 4 (some 18) (v := ?_) rfl rfl (by kernel_rfl) (fun _ _ _ h => h) (by rfl) hs ?_ ?_
            rotate_left
            · intro wx hx; obtain ⟨s1, s2⟩ := hx; go_simp; try with_reducible rfl
            simp only [Act.put, List.setIfInBounds_toArray, List.set_cons_succ, List.set_cons_zero]
            refine Z_takeD 5 (some 19) (v := ?_) rfl rfl (by kernel_rfl) (fun _ _ _ h => h) (by rfl) hs ?_ ?_
            rotate_left
            · intro wx hx; obtain ⟨s1, s2⟩ := hx; go_simp; try with_reducible rfl
            simp only [Act.put, List.setIfInBounds_toArray, List.set_cons_succ, List.set_cons_zero]
            refine Z_takeD 6 (some 20) (v := ?_) rfl rfl (by kernel_rfl) (fun _ _ _ h => h) (by rfl) hs ?_ ?_
            rotate_left
            · intro wx hx; obtain ⟨s1, s2⟩ := hx; go_simp; try with_reducible rfl
            simp only [Act.put, List.setIfInBounds_toArray, List.set_cons_succ, List.set_cons_zero]
            refine Z_takeD 7 (some 21) (v := ?_) rfl rfl (by kernel_rfl) (fun _ _ _ h => h) (by rfl) hs ?_ ?_
            rotate_left
            · intro wx hx; obtain ⟨s1, s2⟩ := hx; go_simp; try with_reducible rfl
            simp only [Act.put, List.setIfInBounds_toArray, List.set_cons_succ, List.set_cons_zero]
            refine Z_takeD 8 (some 22) (v := ?_) rfl rfl (by kernel_rfl) (fun _ _ _ h => h) (by rfl) hs ?_ ?_
            rotate_left
            · intro wx hx; obtain ⟨s1, s2⟩ := hx; go_simp; try with_reducible rfl
            simp only [Act.put, List.setIfInBounds_toArray, List.set_cons_succ, List.set_cons_zero]
            refine Z_takeD 9 (some 23) (v := ?_) rfl rfl (by kernel_rfl) (fun _ _ _ h => h) (by rfl) hs ?_ ?_
            rotate_left
            · intro wx hx; obtain ⟨s1, s2⟩ := hx; go_simp; try with_reducible rfl
            simp only [Act.put, List.setIfInBounds_toArray, List.set_cons_succ, List.set_cons_zero]
            refine Z_takeD 10 (some 24) (v := ?_) rfl rfl (by kernel_rfl) (fun _ _ _ h => h) (by rfl) hs ?_ ?_
            rotate_left
            · intro wx hx; obtain ⟨s1, s2⟩ := hx; go_simp; try with_reducible rfl
            simp only [Act.put, List.setIfInBounds_toArray, List.set_cons_succ, List.set_cons_zero]
            refine Z_takeD 11 (some 25) (v := ?_) rfl rfl (by kernel_rfl) (fun _ _ _ h => h) (by rfl) hs ?_ ?_
            rotate_left
            · intro wx hx; obtain ⟨s1, s2⟩ := hx; go_simp; try with_reducible rfl
            simp only [Act.put, List.setIfInBounds_toArray, List.set_cons_succ, List.set_cons_zero]
            refine Z_takeD 12 (some 26) (v := ?_) rfl rfl (by kernel_rfl) (fun _ _ _ h => h) (by rfl) hs ?_ ?_
            rotate_left
            · intro wx hx; obtain ⟨s1, s2⟩ := hx; go_simp; try with_reducible rfl
            simp only [Act.put, List.setIfInBounds_toArray, List.set_cons_succ, List.set_cons_zero]
            refine Z_takeD 13 (some 27) (v := ?_) rfl rfl (by kernel_rfl) (fun _ _ _ h => h) (by rfl) hs ?_ ?_
            rotate_left
            · intro wx hx; obtain ⟨s1, s2⟩ := hx; go_simp; try with_reducible rfl
            simp only [Act.put, List.setIfInBounds_toArray, List.set_cons_succ, List.set_cons_zero]
            refine Z_done (by kernel_rfl) ?_ _
            go_upto_region 8 with fail
            go_cut [43] (fun bv wx => bv = .bool (y != x) ∧ ∃ m, wx = wA.drewN m)
            case first =>
              refine Z_begin (fun wx => wx.cell? ⟨b, o + i, none⟩ = some (.int .u64 x) ∧ wx.cell? ⟨b2, o2 + (k - 1), none⟩ = some (.int .u64 y)) 14 (by kernel_rfl) (fun w1 hd => by obtain ⟨q, rfl⟩ := hd; exact ⟨c0, d0⟩) (fun w1 hd hs => ?_)
              obtain ⟨nq, rfl⟩ := hd
              refine Z_takeD 0 (some 30) (v := ?_) rfl rfl (by kernel_rfl) (fun _ _ _ h => h) (by rfl) hs ?_ ?_
              rotate_left
              · intro wx hx; obtain ⟨s1, s2⟩ := hx; go_simp; try with_reducible rfl
              simp only [Act.put, List.setIfInBounds_toArray, List.set_cons_succ, List.set_cons_zero]
              refine Z_takeD 1 (some 31) (v := ?_) rfl rfl (by kernel_rfl) (fun _ _ _ h => h) (by rfl) hs ?_ ?_
              rotate_left
              · intro wx hx; obtain ⟨s1, s2⟩ := hx; go_simp; try with_reducible rfl
              simp only [Act.put, List.setIfInBounds_toArray, List.set_cons_succ, List.set_cons_zero]
              refine Z_takeD 2 (some 32) (v := ?_) rfl rfl (by kernel_rfl) (fun _ _ _ h => h) (by rfl) hs ?_ ?_
              rotate_left
              · intro wx hx; obtain ⟨s1, s2⟩ := hx; go_simp; try with_reducible rfl
              simp only [Act.put, List.setIfInBounds_toArray, List.set_cons_succ, List.set_cons_zero]
              refine Z_takeD 3 (some 33) (v := ?_) rfl rfl (by kernel_rfl) (fun _ _ _ h => h) (by rfl) hs ?_ ?_
              rotate_left
              · intro wx hx; obtain ⟨s1, s2⟩ := hx; go_simp; try with_reducible rfl
              simp only [Act.put, List.setIfInBounds_toArray, List.set_cons_succ, List.set_cons_zero]
              refine Z_takeD 4 (some 34) (v := ?_) rfl rfl (by kernel_rfl) (fun _ _ _ h => h) (by rfl) hs ?_ ?_
              rotate_left
              · intro wx hx; obtain ⟨s1, s2⟩ := hx; go_simp; try with_reducible rfl
              simp only [Act.put, List.setIfInBounds_toArray, List.set_cons_succ, List.set_cons_zero]
              refine Z_takeD 5 (some 35) (v := ?_) rfl rfl (by kernel_rfl) (fun _ _ _ h => h) (by rfl) hs ?_ ?_
              rotate_left
              · intro wx hx; obtain ⟨s1, s2⟩ := hx; go_simp; try with_reducible rfl
              simp only [Act.put, List.setIfInBounds_toArray, List.set_cons_succ, List.set_cons_zero]
              refine Z_takeD 6 (some 36) (v := ?_) rfl rfl (by kernel_rfl) (fun _ _ _ h => h) (by rfl) hs ?_ ?_
              rotate_left
              · intro wx hx; obtain ⟨s1, s2⟩ := hx; go_simp; try with_reducible rfl
              simp only [Act.put, List.setIfInBounds_toArray, List.set_cons_succ, List.set_cons_zero]
              refine Z_takeD 7 (some 37) (v := ?_) rfl rfl (by kernel_rfl) (fun _ _ _ h => h) (by rfl) hs ?_ ?_
              rotate_left
              · intro wx hx; obtain ⟨s1, s2⟩ := hx; go_simp; try with_reducible rfl
              simp only [Act.put, List.setIfInBounds_toArray, List.set_cons_succ, List.set_cons_zero]
              refine Z_takeD 8 (some 38) (v := ?_) rfl rfl (by kernel_rfl) (fun _ _ _ h => h) (by rfl) hs ?_ ?_
              rotate_left
              · intro wx hx; obtain ⟨s1, s2⟩ := hx; go_simp; try with_reducible rfl
              simp only [Act.put, List.setIfInBounds_toArray, List.set_cons_succ, List.set_cons_zero]
              refine Z_takeD 9 (some 39) (v := ?_) rfl rfl (by kernel_rfl) (fun _ _ _ h => h) (by rfl) hs ?_ ?_
              rotate_left
              · intro wx hx; obtain ⟨s1, s2⟩ := hx; go_simp; try with_reducible rfl
              simp only [Act.put, List.setIfInBounds_toArray, List.set_cons_succ, List.set_cons_zero]
              refine Z_takeD 10 (some 40) (v := ?_) rfl rfl (by kernel_rfl) (fun _ _ _ h => h) (by rfl) hs ?_ ?_
              rotate_left
              · intro wx hx; obtain ⟨s1, s2⟩ := hx; go_simp; try with_reducible rfl
              simp only [Act.put, List.setIfInBounds_toArray, List.set_cons_succ, List.set_cons_zero]
              refine Z_takeD 11 (some 41) (v := ?_) rfl rfl (by kernel_rfl) (fun _ _ _ h => h) (by rfl) hs ?_ ?_
              rotate_left
              · intro wx hx; obtain ⟨s1, s2⟩ := hx; go_simp; try with_reducible rfl
              simp only [Act.put, List.setIfInBounds_toArray, List.set_cons_succ, List.set_cons_zero]
              refine Z_takeD 12 (some 42) (v := ?_) rfl rfl (by kernel_rfl) (fun _ _ _ h => h) (by rfl) hs ?_ ?_
              rotate_left
              · intro wx hx; obtain ⟨s1, s2⟩ := hx; go_simp; try with_reducible rfl
              simp only [Act.put, List.setIfInBounds_toArray, List.set_cons_succ, List.set_cons_zero]
              refine Z_takeD 13 (some 43) (v := ?_) rfl rfl (by kernel_rfl) (fun _ _ _ h => h) (by rfl) hs ?_ ?_
              rotate_left
              · intro wx hx; obtain ⟨s1, s2⟩ := hx; go_simp; try with_reducible rfl
              simp only [Act.put, List.setIfInBounds_toArray, List.set_cons_succ, List.set_cons_zero]
              refine Z_done (by kernel_rfl) ?_ _
              go_wp2_with fail
              go_meet
              exact ⟨rfl, _, by first | rfl | exact drewN2 _ _ _ | (rw [drewN2, drewN2])⟩
            case rest =>
              obtain ⟨rfl, m2, rfl⟩ := hcut
              by_cases hyx : y = x
              · have f1 : (y != x) = false := by simpa using hyx
                have HE := Lib.hid (HHAS.out (hyx ▸ HMEM.out))
                clear HINS HHAS hyx HMEM HYY
                go_wp2_with fail
                go_roundw
                case rel => exact ⟨i + 1, H, by omega, by go_num, by rw [HE.out]; exact HSR.out, hHr.drewN _, hgr.drewN _⟩
                case measure => simp [intOf]; omega
              · have f1 : (y != x) = true := by simpa using hyx
                have HE := Lib.hid (HINS.out k HGT.out (fun j h h2 => by have := HLOW.out j h h2; have := HLE.out; omega))
                clear HINS HHAS hyx HMEM HYY HGT HKL HLOW HLE
                obtain ⟨hl4, ⟨hv4, hn4, rfl⟩ | ⟨g, cap, cur, fz, hv4, hn4, hc4, hs4, ht4, hf4, rfl⟩⟩ := HSR.out
                · injection hv4 with hv41 _ _; cases hv41
                · injection hv4 with hv41 hv42 hv43
                  injection hv41 with hv41
                  injection hv41 with hg0 ho0 _
                  have hg1 := hg0.symm
                  clear hg0
                  subst hg1; subst ho0; subst hv43
                  clear hv42 d0
                  rw [Nat.mul_one] at hs4
                  unfold maxLen at hc4
                  obtain ⟨oi, hoi, hoi2⟩ : ∃ oi, (if c2 = k then some (⟨g, 0, none⟩ : Addr) else some ⟨g, k, none⟩) = some ⟨g, oi, none⟩ ∧ (k < s.length → oi = k) := by
                    by_cases h : c2 = k
                    · exact ⟨0, by rw [if_pos h], fun h2 => by omega⟩
                    · exact ⟨k, by rw [if_neg h], fun _ => rfl⟩
                  have hkc : k ≤ c2 := by omega
                  have HF1 := Lib.hid (show ∀ wx (Fx : HL), Holds wx ([(g, .cells cur 22 fz)] ++ Fx) → ReadsAt wx 1 (.slice (some ⟨g, 0, none⟩) k c2) k ((s.take k).map (Value.int .u64)) by
                    intro wx Fx hx
                    obtain ⟨hl1, A5, c5, hv5, hc51, hc52, hrd5⟩ := HSR.out.reads hx
                    injection hv5 with hv51 _ hv53
                    subst hv51; subst hv53
                    refine ⟨by simp; omega, _, _, rfl, by omega, by unfold maxLen; omega, fun h0 => ⟨g, 0, rfl, fun j u hu => ?_⟩⟩
                    obtain ⟨b5, o5, he5, hcell5⟩ := hrd5 (by omega)
                    injection he5 with he5
                    injection he5 with e1 e2 _
                    subst e1; subst e2
                    have hji : j < k := by
                      have := (List.getElem?_eq_some_iff.1 hu).1
                      simp at this; omega
                    rw [List.getElem?_map, List.getElem?_take_of_lt hji] at hu
                    exact hcell5 j u (by rw [List.getElem?_map]; exact hu))
                  have HF2 := Lib.hid (show ∀ wx (Fx : HL), Holds wx ([(g, .cells cur 22 fz)] ++ Fx) → ReadsAt wx 1 (.slice (some ⟨g, oi, none⟩) (s.length - k) (c2 - k)) (s.length - k) ((s.drop k).map (Value.int .u64)) by
                    intro wx Fx hx
                    obtain ⟨hl1, A5, c5, hv5, hc51, hc52, hrd5⟩ := HSR.out.reads hx
                    injection hv5 with hv51 _ hv53
                    subst hv51; subst hv53
                    refine ⟨by simp, _, _, rfl, by omega, by unfold maxLen; omega, fun h0 => ⟨g, oi, rfl, fun j u hu => ?_⟩⟩
                    obtain ⟨b5, o5, he5, hcell5⟩ := hrd5 (by omega)
                    injection he5 with he5
                    injection he5 with e1 e2 _
                    subst e1; subst e2
                    rw [List.getElem?_map, List.getElem?_drop] at hu
                    have := hcell5 (k + j) u (by rw [List.getElem?_map]; exact hu)
                    rw [hoi2 (by omega)]
                    rw [Nat.zero_add] at this
                    exact this)
                  clear hl4 ht4 hf4 hs4 hoi2
                  have hoC := hHr.drewN m2
                  have hoG := hgr.drewN m2
                  clear c0
                  go_upto_region 9 with fail
                  refine Y_begin (fun wx => wx.cell? ⟨b, o + i, none⟩ = some (.int .u64 x) ∧ True) 13 (by kernel_rfl) (fun w1 hd => ⟨HZC.out _ (hoC.dr hd).right, trivial⟩) (fun w1 hd hs => ?_)
                  have hC : Holds w1 (([] : HL) ++ (([] : HL) ++ ([(g, .cells cur 22 fz)] ++ Fr))) := hoC.dr hd; have hG := hoG.trans (Grew.dr hd); clear hd hoC hoG; obtain ⟨wc, rfl⟩ : ∃ x, x = w1 := ⟨_, rfl⟩
                  refine Y_takeT 0 (some 44) (v := ?_) rfl rfl (by kernel_rfl) (fun _ _ _ h => h) (by rfl) hs ?_ ?_
                  rotate_left
                  · intro wx; go_simp; try with_reducible rfl
                  simp only [Act.put, List.setIfInBounds_toArray, List.set_cons_succ, List.set_cons_zero]
                  refine Y_takeT 1 (some 45) (v := ?_) rfl rfl (by kernel_rfl) (fun _ _ _ h => h) (by rfl) hs ?_ ?_
                  rotate_left
                  · intro wx; go_simp; try with_reducible rfl
                  simp only [Act.put, List.setIfInBounds_toArray, List.set_cons_succ, List.set_cons_zero]
                  refine Y_takeT 2 (some 46) (v := ?_) rfl rfl (by kernel_rfl) (fun _ _ _ h => h) (by rfl) hs ?_ ?_
                  rotate_left
                  · intro wx; go_simp; try with_reducible rfl
                  simp only [Act.put, List.setIfInBounds_toArray, List.set_cons_succ, List.set_cons_zero]
                  refine Y_takeT 4 (some 48) (v := ?_) rfl rfl (by kernel_rfl) (fun _ _ _ h => h) (by rfl) hs ?_ ?_
                  rotate_left
                  · intro wx; go_simp; try with_reducible rfl
                  simp only [Act.put, List.setIfInBounds_toArray, List.set_cons_succ, List.set_cons_zero]
                  refine Y_takeT 5 (some 49) (v := ?_) rfl rfl (by kernel_rfl) (fun _ _ _ h => h) (by rfl) hs ?_ ?_
                  rotate_left
                  · intro wx; go_simp; try with_reducible rfl
                  simp only [Act.put, List.setIfInBounds_toArray, List.set_cons_succ, List.set_cons_zero]
                  refine Y_takeT 6 (some 50) (v := ?_) rfl rfl (by kernel_rfl) (fun _ _ _ h => h) (by rfl) hs ?_ ?_
                  rotate_left
                  · intro wx; go_simp; try with_reducible rfl
                  simp only [Act.put, List.setIfInBounds_toArray, List.set_cons_succ, List.set_cons_zero]
                  refine Y_takeD 7 (some 51) (v := ?_) rfl rfl (by kernel_rfl) (fun _ _ _ h => h) (by rfl) hs ?_ ?_
                  rotate_left
                  · intro wx hx; obtain ⟨x1, x2⟩ := hx; go_simp; try with_reducible rfl
                  simp only [Act.put, List.setIfInBounds_toArray, List.set_cons_succ, List.set_cons_zero]
                  refine Y_takeT 10 (some 54) (v := ?_) rfl rfl (by kernel_rfl) (fun _ _ _ h => h) (by rfl) hs ?_ ?_
                  rotate_left
                  · intro wx; go_simp; try with_reducible rfl
                  simp only [Act.put, List.setIfInBounds_toArray, List.set_cons_succ, List.set_cons_zero]
                  refine Y_takeT 11 (some 55) (v := ?_) rfl rfl (by kernel_rfl) (fun _ _ _ h => h) (by rfl) hs ?_ ?_
                  rotate_left
                  · intro wx; go_simp; try with_reducible rfl
                  simp only [Act.put, List.setIfInBounds_toArray, List.set_cons_succ, List.set_cons_zero]
                  refine Y_takeT 12 (some 56) (v := ?_) rfl rfl (by kernel_rfl) (fun _ _ _ h => h) (by rfl) hs ?_ ?_
                  rotate_left
                  · intro wx; go_simp; try with_reducible rfl
                  simp only [Act.put, List.setIfInBounds_toArray, List.set_cons_succ, List.set_cons_zero]
                  refine Y_two 3 8 rfl rfl (by kernel_rfl) (fun K hK => ?_) (fun K hK => ?_)
                  have ⟨x1, x2⟩ := hs
                  refine step_append_T tWs (by rfl) _ _ (by rfl) (by rfl) (by rfl) (IsRow.nil _ _) hC (HF1.out wc _ hC.right.right) (by intro z hz; obtain ⟨q, _, rfl⟩ := List.mem_map.1 hz; rfl) (by unfold maxLen; omega) (by omega) ?_; intro A4 c4 wq H4 hR4 hC4 gg4; rw [Nat.zero_add] at hR4; rw [Nat.zero_add]   -- call
                  clear x1 x2
                  refine hK _ _ (⟨HZC.out _ hC4.right.right.right, trivial⟩) (fun hs2 => ?_); clear hK K hs; have hs := hs2; clear hs2
                  have hG2 := hG.trans gg4; clear hC hG gg4; have hC := hC4; have hG := hG2; clear hC4 hG2; clear wc; obtain ⟨wc, rfl⟩ : ∃ x, x = wq := ⟨_, rfl⟩
                  refine Y_mid 8 rfl (by kernel_rfl) (fun K hK => ?_)
                  have ⟨x1, x2⟩ := hs
                  go_simp   -- buildSlice
                  clear x1 x2
                  refine hK _ _ (⟨HZC.out _ (Holds.into2 (hC.alloc _)).right.right.right, trivial⟩) (fun hs2 => ?_); clear hK K hs; have hs := hs2; clear hs2
                  have hC2 := Holds.into2 (hC.alloc (.cells #[.int .u64 x] 22)); have hG2 := hG.alloc (.cells #[.int .u64 x] 22); clear hC hG; generalize wc.alloc (.cells #[.int .u64 x] 22) = wq at *; generalize wc.heap.size = g8 at *; clear wc; have hC := hC2; have hG := hG2; clear hC2 hG2; obtain ⟨wc, rfl⟩ : ∃ x, x = wq := ⟨_, rfl⟩
                  refine Y_mid 9 rfl (by kernel_rfl) (fun K hK => ?_)
                  have ⟨x1, x2⟩ := hs
                  refine step_append_T tWs (by rfl) _ _ (by rfl) (by rfl) (by rfl) hR4 hC (ReadsAt.of_block (n := 1) (c := 1) (o := 0) (g := g8) (hC.get (b := g8) (o := .cells #[.int .u64 x] 22) (by simp)) [.int .u64 x] rfl (by omega) (by simp [maxLen]) (by intro j u hu; simpa using hu)) (by simp [Value.oneCell']) (by unfold maxLen; omega) (by omega) ?_; intro A9 c9 wq H9 hR9 hC9 gg9   -- call
                  clear x1 x2
                  refine hK _ _ (⟨HZC.out _ hC9.right.right.right, trivial⟩) (fun hs2 => ?_); clear hK K hs; have hs := hs2; clear hs2
                  have hG2 := hG.trans gg9; clear hC hG gg9 hR4; have hC := hC9; have hG := hG2; clear hC9 hG2; clear wc; obtain ⟨wc, rfl⟩ : ∃ x, x = wq := ⟨_, rfl⟩
                  rotate_left
                  have ⟨x1, x2⟩ := hs
                  go_simp   -- buildSlice
                  clear x1 x2
                  refine hK _ _ (⟨HZC.out _ (Holds.into2 (hC.alloc _)).right.right.right, trivial⟩) (fun hs2 => ?_); clear hK K hs; have hs := hs2; clear hs2
                  have hC2 := Holds.into2 (hC.alloc (.cells #[.int .u64 x] 22)); have hG2 := hG.alloc (.cells #[.int .u64 x] 22); clear hC hG; generalize wc.alloc (.cells #[.int .u64 x] 22) = wq at *; generalize wc.heap.size = g8 at *; clear wc; have hC := hC2; have hG := hG2; clear hC2 hG2; obtain ⟨wc, rfl⟩ : ∃ x, x = wq := ⟨_, rfl⟩
                  refine Y_mid 3 rfl (by kernel_rfl) (fun K hK => ?_)
                  have ⟨x1, x2⟩ := hs
                  refine step_append_T tWs (by rfl) _ _ (by rfl) (by rfl) (by rfl) (IsRow.nil _ _) hC (HF1.out wc _ hC.right.right) (by intro z hz; obtain ⟨q, _, rfl⟩ := List.mem_map.1 hz; rfl) (by unfold maxLen; omega) (by omega) ?_; intro A4 c4 wq H4 hR4 hC4 gg4; rw [Nat.zero_add] at hR4; rw [Nat.zero_add]   -- call
                  clear x1 x2
                  refine hK _ _ (⟨HZC.out _ hC4.right.right.right, trivial⟩) (fun hs2 => ?_); clear hK K hs; have hs := hs2; clear hs2
                  have hG2 := hG.trans gg4; clear hC hG gg4; have hC := hC4; have hG := hG2; clear hC4 hG2; clear wc; obtain ⟨wc, rfl⟩ : ∃ x, x = wq := ⟨_, rfl⟩
                  refine Y_mid 9 rfl (by kernel_rfl) (fun K hK => ?_)
                  have ⟨x1, x2⟩ := hs
                  refine step_append_T tWs (by rfl) _ _ (by rfl) (by rfl) (by rfl) hR4 hC (ReadsAt.of_block (n := 1) (c := 1) (o := 0) (g := g8) (hC.get (b := g8) (o := .cells #[.int .u64 x] 22) (by simp)) [.int .u64 x] rfl (by omega) (by simp [maxLen]) (by intro j u hu; simpa using hu)) (by simp [Value.oneCell']) (by unfold maxLen; omega) (by omega) ?_; intro A9 c9 wq H9 hR9 hC9 gg9   -- call
                  clear x1 x2
                  refine hK _ _ (⟨HZC.out _ hC9.right.right.right, trivial⟩) (fun hs2 => ?_); clear hK K hs; have hs := hs2; clear hs2
                  have hG2 := hG.trans gg9; clear hC hG gg9 hR4; have hC := hC9; have hG := hG2; clear hC9 hG2; clear wc; obtain ⟨wc, rfl⟩ : ∃ x, x = wq := ⟨_, rfl⟩
                  rotate_left
                  all_goals
                    refine Y_late 13 rfl (by kernel_rfl) (by kernel_rfl) (fun K hK => ?_)
                    have ⟨x1, x2⟩ := hs
                    refine step_append_T tWs (by rfl) _ _ (by rfl) (by rfl) (by rfl) hR9 hC (HF2.out wc _ hC.right.right) (by intro z hz; obtain ⟨q, _, rfl⟩ := List.mem_map.1 hz; rfl) (by unfold maxLen; omega) (by omega) ?_; intro A13 c13 wq H13 hR13 hC13 gg13   -- call
                    clear x1 x2 hs
                    refine hK _ _ ?_; clear hK K
                    have hG2 := hG.trans gg13; clear hC hG gg13 hR9; have hC := hC13; have hG := hG2; clear hC13 hG2; clear wc; obtain ⟨wc, rfl⟩ : ∃ x, x = wq := ⟨_, rfl⟩
                    refine Y_late 14 rfl (by kernel_rfl) (by kernel_rfl) (fun K hK => ?_)
                    go_simp   -- assign
                    refine hK _ _ ?_; clear hK K
                    refine Y_done (by kernel_rfl) ?_ _
                    have HR13 := Lib.hid hR13
                    clear hR13
                    go_wp2_with fail
                    go_roundw
                    case rel =>
                      refine ⟨i + 1, H13, by omega, by go_num, ?_, hC.mid.mid, hG⟩
                      rw [HE.out]
                      unfold IsWs
                      have h := HR13.out
                      have hl : (s.take k ++ [x] ++ s.drop k).length = k + 1 + (s.length - k) := by simp; omega
                      rw [hl]
                      simpa using h
                    case measure => simp [intOf]; omega
    · have hil : i = zs.length := by omega
      subst hil
      rw [List.take_of_length_le (Nat.le_refl _)] at HSR ⊢
      go_wp2_with fail
      go_ret
      exact ⟨_, H, rfl, HSR.out, hHr, hgr⟩
end Go.Proofs.Ytdbcmjambajffaa
