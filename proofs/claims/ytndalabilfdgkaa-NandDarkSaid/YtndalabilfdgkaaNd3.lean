/-
  Package nand: empty, New.
-/
import Derived.Test.YtndalabilfdgkaaNd2
namespace Go.Proofs.Ytndalabilfdgkaa
open Go.RowKit
set_option linter.unusedSimpArgs false
set_option linter.unusedVariables false

/-- a page without anything, a block's pages -/
def blankP (Z : Nat) : List UInt8 := List.replicate (Z + 28) 255
def blankB (P Z : Nat) : List (List UInt8) := List.replicate P (blankP Z)
set_option maxRecDepth 20000 in
theorem nraw_at {b Z : Nat} {w : World} (h2 : w.cell? ⟨b, 2, none⟩ = some (.int .i64 (Z : Int))) (hz : Z ≤ 256) : Calls Try.prog 31 #[.pointer (some ⟨b, 0, none⟩)] w fun e w' => e = .returned (.int .i64 ((Z : Int) + 28)) ∧ w = w' := by
  go_enter Try.func31, Try.ntmps31
  go_wp2_with fail
  go_ret
  exact ⟨rfl, rfl⟩
/-- pages filled so far -/
def EmptyTo (ov : Value) (P Z : Nat) (w : World) (Fr : HL) (iv : Value) (wr : World) : Prop :=
  ∃ (k : Nat) (H : HL), k ≤ P ∧ iv = .int .i64 k ∧ Rows2 bytesR 28 1 ov (List.replicate k (blankP Z) ++ List.replicate (P - k) []) H ∧ Holds wr (H ++ Fr) ∧ Grew w wr
theorem bys_nils (g P : Nat) (hP : P ≤ 8) : Rows2 bytesR 28 1 (.slice (some ⟨g, 0, none⟩) P P) (List.replicate P []) [(g, .cells (madeCells (Value.slice none 0 0).cells (P * 1)) 28)] := by
  refine ⟨List.replicate P [.slice none 0 0], [(g, .cells (madeCells (Value.slice none 0 0).cells (P * 1)) 28)], List.replicate P [], ?_, by simp, by simp, ?_, ?_, ?_⟩
  · have h := IsRow.made (size := 1) (e := 28) g P (madeCells (Value.slice none 0 0).cells (P * 1)) (by rw [made_size]) (by simp [maxLen]; omega)
    rw [List.length_replicate]
    have e : (madeCells (Value.slice none 0 0).cells (P * 1)).toList = (List.replicate P [Value.slice none 0 0]).flatten := by
      apply List.ext_getElem
      · simp [madeCells]
      · intro i h1 h2
        have h3 : ∀ z ∈ (List.replicate P [Value.slice none 0 0]).flatten, z = Value.slice none 0 0 := by
          intro z hz
          obtain ⟨c, hc, hzc⟩ := List.mem_flatten.1 hz
          rw [List.eq_of_mem_replicate hc] at hzc
          simpa using hzc
        rw [h3 _ (List.getElem_mem h2)]
        simp [madeCells, Value.cells, Nat.mod_one]
    rw [e] at h
    exact h
  · intro c hc
    rw [List.eq_of_mem_replicate hc]; rfl
  · intro i c x h e1 e2 e3
    rw [List.eq_of_mem_replicate (List.mem_of_getElem? e1), List.eq_of_mem_replicate (List.mem_of_getElem? e2), List.eq_of_mem_replicate (List.mem_of_getElem? e3)]
    exact ⟨_, rfl, IsRow.nil _ _⟩
  · simp

theorem blank_step {P k Z : Nat} (h : k < P) : (List.replicate k (blankP Z) ++ List.replicate (P - k) []).set k (blankP Z) = List.replicate (k + 1) (blankP Z) ++ List.replicate (P - (k + 1)) [] := by
  apply List.ext_getElem?
  intro i
  rw [List.getElem?_set]
  by_cases hi : k = i
  · subst hi
    rw [if_pos rfl, if_pos (by simp; omega), List.getElem?_append_left (by simp), List.getElem?_replicate, if_pos (by omega)]
  · rw [if_neg hi]
    by_cases h2 : i < k
    · rw [List.getElem?_append_left (by simpa using h2), List.getElem?_append_left (by simp; omega), List.getElem?_replicate, List.getElem?_replicate, if_pos h2, if_pos (by omega)]
    · rw [List.getElem?_append_right (by simp; omega), List.getElem?_append_right (by simp; omega), List.getElem?_replicate, List.getElem?_replicate]
      simp only [List.length_replicate]
      by_cases h3 : i < P
      · rw [if_pos (by omega), if_pos (by omega)]
      · rw [if_neg (by omega), if_neg (by omega)]
set_option maxRecDepth 20000 in
set_option maxHeartbeats 2000000 in
theorem nempty_any (b P Z : Nat) (w : World) (Fr : HL) (hH : Holds w Fr) (hP : ∀ wx, Holds wx Fr → wx.cell? ⟨b, 1, none⟩ = some (.int .i64 (P : Int)) ∧ wx.cell? ⟨b, 2, none⟩ = some (.int .i64 (Z : Int))) (hp1 : 1 ≤ P) (hp8 : P ≤ 8) (hz : Z ≤ 256) :
    Calls Try.prog 28 #[.pointer (some ⟨b, 0, none⟩)] w (RetNew (fun v H => IsBys v (blankB P Z) H) w Fr) := by
  have HP := Lib.hid hP
  obtain ⟨c1, c2⟩ := hP w hH
  clear hP
  have hmk := fun w => run_makeN (P := Try.prog) tBytess8 P P (Nat.le_refl _) (by omega) (by simp [maxLen]; omega) w
  obtain ⟨bs, hbs⟩ : ∃ bs, bs = madeCells (Value.slice none 0 0).cells (P * 1) := ⟨_, rfl⟩
  have hn := bys_nils w.heap.size P hp8
  rw [← hbs] at hmk hn
  have HN := Lib.hid hn; clear hn hbs
  go_enter Try.func28, Try.ntmps28
  go_wp2_with fail
  go_loopw [4, 13] (fun _ iv wr => EmptyTo (.slice (some ⟨w.heap.size, 0, none⟩) P P) P Z w Fr iv wr) (fun _ iv _ => P - (intOf iv).toNat)
  case atStart => exact ⟨0, _, by omega, rfl, by simpa using HN.out, hH.alloc _, (Grew.refl w).alloc _⟩
  case round =>
    obtain ⟨k, H, hk, rfl, hr, hHr, hgr⟩ := hrel
    clear HN c1 c2 hH
    by_cases hlt : k < P
    · obtain ⟨d1, d2⟩ := HP.out wr hHr.right
      have hxk : (List.replicate k (blankP Z) ++ List.replicate (P - k) [])[k]? = some [] := by
        rw [List.getElem?_append_right (by simp), List.getElem?_replicate, if_pos (by simp; omega)]
      obtain ⟨g', cap', cs, Hi, Hr, hv, hq1, hq2, hq3, hcl, ⟨pv, rfl, _⟩, hcell, hopen, _, hset⟩ := hr.open2 hxk
      clear hq1 hq2 hq3
      injection hv with hv hv2 hvc
      injection hv with hv
      injection hv with hv hv3 hv4
      subst hv hvc
      clear hv2 hv3 hv4
      have hHA := hHr.alloc (.cells #[.int .u8 255] 5)
      have hGA := hgr.alloc (.cells #[.int .u8 255] 5)
      have hHB := hopen _ (((wr.heap.size, .cells #[.int .u8 255] 5) :: Fr)) (hHA.sub (by (repeat' (first | refine sub_append ?_ ?_ | refine sub_cons ?_ ?_ | exact sub_nil)); all_goals first | (intro p hp; simp only [List.mem_append, List.mem_cons, hp, true_or, or_true]) | simp only [List.mem_append, List.mem_cons, true_or, or_true]) (fun b => by simp only [keyc_append, keyc_cons, keyc_nil]; omega))
      have x0 := ((hcell _ _ hHB.right).2 0 (by omega)).1
      have x1 := ((hcell _ _ hHB.right).2 0 (by omega)).2
      have HC := Lib.hid (fun (wx : World) (F : HL) (hx : Holds wx (Hr ++ F)) => (hcell wx F hx).2 0 (by omega))
      have HSET := Lib.hid hset
      have hb1 : BytesAt (wr.alloc (.cells #[.int .u8 255] 5)) (.slice (some ⟨wr.heap.size, 0, none⟩) 1 1) [255] := ReadsAt.one' rfl
      have HB1 := Lib.hid hb1
      have hdd : (wr.alloc (.cells #[.int .u8 255] 5)).cell? ⟨b, 2, none⟩ = some (.int .i64 (Z : Int)) := (HP.out _ (hHA.tail.right)).2
      have HHB := Lib.hid hHB
      have HDD := Lib.hid hdd
      have hkP : (k : Int) < (P : Int) := by omega
      have e28 : ((Z : Int) + 28) = ((Z + 28 : Nat) : Int) := by omega
      have HE := Lib.hid e28; clear e28
      clear hr hopen hset hcell hHA hb1 hHB x0 x1 hxk hcl hdd hmk
      go_wp2_with fail
      refine (nraw_at (w := wr.alloc (.cells #[.int .u8 255] 5)) HDD.out hz).mono ?_
      rintro e wx ⟨rfl, rfl⟩
      rw [HE.out]
      go_wp2_with fail
      refine (repeat_any (.slice (some ⟨wr.heap.size, 0, none⟩) 1 1) 255 (Z + 28) _ _ HB1.out HHB.out (by omega) (by omega)).mono ?_
      rintro e w3 ⟨v3, H3, rfl, hb3, hH3, hg3⟩
      obtain ⟨A3, q3, rfl⟩ := hb3.val
      simp only [List.length_replicate] at hb3 ⊢
      have hH4 : Holds w3 (H3 ++ (Hr ++ ((wr.heap.size, .cells #[.int .u8 255] 5) :: Fr))) := hH3.sub (by (repeat' (first | refine sub_append ?_ ?_ | refine sub_cons ?_ ?_ | exact sub_nil)); all_goals first | (intro p hp; simp only [List.mem_append, List.mem_cons, hp, true_or, or_true]) | simp only [List.mem_append, List.mem_cons, true_or, or_true]) (fun b => by simp only [keyc_append, keyc_cons, keyc_nil]; omega)
      obtain ⟨x0, x1⟩ := HC.out w3 ((H3 ++ ((wr.heap.size, .cells #[.int .u8 255] 5) :: Fr))) (hH4.sub (by (repeat' (first | refine sub_append ?_ ?_ | refine sub_cons ?_ ?_ | exact sub_nil)); all_goals first | (intro p hp; simp only [List.mem_append, List.mem_cons, hp, true_or, or_true]) | simp only [List.mem_append, List.mem_cons, true_or, or_true]) (fun b => by simp only [keyc_append, keyc_cons, keyc_nil]; omega))
      obtain ⟨H', hr', hH5⟩ := HSET.out w3 ((wr.heap.size, .cells #[.int .u8 255] 5) :: Fr) 0 (.slice A3 (Z + 28) q3) (blankP Z) H3 (by omega) ⟨_, rfl, hb3⟩ hH4
      have hG5 := (hGA.trans hg3).setCell ⟨w.heap.size, k * 1 + 0, none⟩ (.slice A3 (Z + 28) q3)
      have HR := Lib.hid hr'
      have HH5 := Lib.hid hH5
      simp only [Nat.mul_one, Nat.add_zero, List.getElem?_cons_zero] at x0 x1 HH5 hG5
      clear hr' hH5 hH4 hH3 hb3 hg3
      go_wp2_with fail
      refine ⟨⟨k + 1, H', by omega, by go_num, ?_, Holds.mid (B := [_]) HH5.out, hG5⟩, by simp [intOf]; omega⟩
      rw [← blank_step hlt]; exact HR.out
    · obtain rfl : k = P := by omega
      go_wp2_with fail
      go_ret
      refine ⟨_, H, rfl, ?_, hHr, hgr⟩
      unfold IsBys blankB
      simpa using hr
end Go.Proofs.Ytndalabilfdgkaa
