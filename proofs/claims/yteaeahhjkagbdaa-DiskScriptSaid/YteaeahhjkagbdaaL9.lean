/-
  Chapter 9: laws of the model, and awake.
-/
import Derived.Test.YteaeahhjkagbdaaDkN
namespace Go.Proofs.Yteaeahhjkagbdaa
open Go.RowKit
set_option linter.unusedSimpArgs false
set_option linter.unusedVariables false

theorem fill9_len (n : Int) (z : Nat) (h : z ≤ 300) : (fillL n (z : Int)).length = z := by
  unfold fillL
  rw [if_pos (by omega)]
  simp
theorem IsErr.zero {v : Value} {H : HL} (h : IsErr v 0 H) : v = .nilIface ∧ H = [] := by
  rcases h with ⟨_, h1, h2⟩ | ⟨h0, _⟩
  · exact ⟨h1, h2⟩
  · exact absurd rfl h0
theorem IsErr.pos {v : Value} {c : Int} {H : HL} (h : IsErr v c H) (hc : c ≠ 0) : ∃ b s, v = .iface 148 (.pointer (some ⟨b, 0, Option.none⟩)) ∧ H = [(b, .cells #[.int .i64 c, .string s] 151)] := by
  rcases h with ⟨h1, _⟩ | ⟨_, h⟩
  · exact absurd h1 hc
  · exact h
theorem DM.write_ok {d : DM} {a : Nat} {b : List UInt8} (hz : b.length = d.size) (hy : d.why a true = 0) : d.write a b = { d with waits := d.waits ++ [(a, b)] } := by
  unfold DM.write
  rw [decide_eq_true hz, if_pos hy]; rfl
theorem DM.write_no {d : DM} {a : Int} {b : List UInt8} {g : Bool} (hg : decide (b.length = d.size) = g) (hy : d.why a g ≠ 0) : d.write a b = d := by
  unfold DM.write
  rw [hg, if_neg hy]
theorem DM.write_why (d : DM) (a : Int) (b : List UInt8) : (d.write a b).why = d.why ∧ (d.write a b).size = d.size ∧ (d.write a b).firm = d.firm ∧ (d.write a b).broken = d.broken := by
  unfold DM.write; split <;> exact ⟨rfl, rfl, rfl, rfl⟩
theorem DM.crash_none (d : DM) : d.crash [] = { d with waits := [] } ∧ d.crashN [] = 0 := by
  have h : ∀ k, d.crashTo [] k = (d.firm, 0) := by
    intro k
    induction k with
    | zero => rfl
    | succ k ih => unfold DM.crashTo; rw [if_neg (by simp [keepB])]; exact ih
  exact ⟨by unfold DM.crash; rw [h], by unfold DM.crashN; rw [h]⟩
theorem FrNums.nil_ (Fr : HL) : FrNums Fr (.slice none 0 0) [] := fun w _ => IsRow.reads (Fr := []) (IsRow.nil 3 1) (Holds.nil_ _)
theorem FrBools.nil_ (Fr : HL) : FrBools Fr (.slice none 0 0) [] := fun w _ => IsRow.reads (Fr := []) (IsRow.nil 4 1) (Holds.nil_ _)

/-- a literal of one int -/
theorem nums_one (g : Nat) (x : Int) : IsNums (.slice (some ⟨g, 0, none⟩) 1 1) [x] [(g, .cells #[.int .i64 x] 3)] := by
  have := IsRow.made (size := 1) (e := 3) g 1 #[.int .i64 x] (by rfl) (by simp [maxLen])
  exact this
theorem FrBytes.mem {v : Value} {bs : List UInt8} {H Fr : HL} (h : IsBytes v bs H) (hH : ∀ w, Holds w Fr → Holds w (H ++ Fr)) : FrBytes Fr v bs := fun w hw => h.at_ (hH w hw)

set_option maxRecDepth 100000 in
set_option maxHeartbeats 4000000 in
theorem awake9_any (w : World) (Fr : HL) (hH : Holds w Fr) : Calls Try.prog 32 #[] w (RetFr (.bool true) w Fr) := by
  obtain ⟨zs, hzs, hzn, hmk⟩ := make_bytes 128 (by omega)
  have hmk : ∀ w : World, (Instr.makeSlice 31 (.int .i64 128) (.int .i64 128)).run Try.prog w = .ok (.slice (some ⟨w.heap.size, 0, none⟩) 128 128) (w.alloc (.cells zs 5)) := hmk
  have HZS := Lib.hid hzs; clear hzs
  have HZN := Lib.hid hzn; clear hzn
  have hl : (fillL 7 128).length = 128 := fill9_len 7 128 (by omega)
  have hy0 : (DM.new 2 128 [1]).why 0 true = 0 := by rfl
  have hy1 : (DM.new 2 128 [1]).why 1 true = 5 := by rfl
  have HW0 := Lib.hid (show (DM.new 2 128 [1]).write 0 (fillL 7 128) = { DM.new 2 128 [1] with waits := [(0, fillL 7 128)] } from DM.write_ok (a := 0) hl hy0)
  have HC0 := Lib.hid (show (DM.new 2 128 [1]).why 0 (decide ((fillL 7 128).length = (DM.new 2 128 [1]).size)) = 0 by rw [decide_eq_true (show (fillL 7 128).length = (DM.new 2 128 [1]).size from hl)]; exact hy0)
  have HC1 := Lib.hid (show ({ DM.new 2 128 [1] with waits := [(0, fillL 7 128)] } : DM).why 1 (decide ((fillL 7 128).length = (DM.new 2 128 [1]).size)) = 5 by rw [decide_eq_true (show (fillL 7 128).length = (DM.new 2 128 [1]).size from hl)]; exact hy1)
  have HW1 := Lib.hid (show ({ DM.new 2 128 [1] with waits := [(0, fillL 7 128)] } : DM).write 1 (fillL 7 128) = { DM.new 2 128 [1] with waits := [(0, fillL 7 128)] } from DM.write_no (g := true) (decide_eq_true hl) (by show (DM.new 2 128 [1]).why 1 true ≠ 0; rw [hy1]; decide))
  have HL := Lib.hid hl
  clear hl hy0 hy1
  have k1 := err_eq
  have k2 := nil_eq
  go_enter Try.func32, Try.ntmps32
  go_wp2_with fail
  have hHa := hH.alloc (.cells #[.int .i64 1] 3)
  refine (dnew_good 2 128 (.slice (some ⟨w.heap.size, 0, none⟩) 1 1) [1] _ _ hHa (fun wx hx => (nums_one w.heap.size 1).at_ (H := [_]) hx) (by omega) (by omega) (by omega) (by omega)).mono ?_
  rintro e w1 ⟨dv, Hd, rfl, hd, hH1, hg1⟩
  obtain ⟨b, rfl⟩ := hd.ptr
  have HD := Lib.hid hd; clear hd
  have hG1 := ((Grew.refl w).alloc (.cells #[.int .i64 1] 3)).trans hg1
  have hH1' := Holds.mid (B := [_]) hH1
  clear hg1 hH1 hHa
  go_wp2_with fail
  refine (fill_any 7 128 w1 _ hH1' (by omega)).mono ?_
  rintro e w2 ⟨fv, Hf, rfl, hf, hH2, hg2⟩
  have HF := Lib.hid hf; clear hf
  go_wp2_with fail
  refine (dwrite_any 0 fv (fillL 7 128) HD.out (Fr := Hf ++ Fr) (hH2.sub (by (repeat' (first | refine sub_append ?_ ?_ | refine sub_cons ?_ ?_ | exact sub_nil)); all_goals first | (intro p hp; simp only [List.mem_append, List.mem_cons, hp, true_or, or_true]) | simp only [List.mem_append, List.mem_cons, true_or, or_true]) (fun b => by simp only [keyc_append, keyc_cons, keyc_nil]; omega)) (FrBytes.left (fun wx hx => HF.out.at_ (Fr := []) (by simpa using hx))) (by rw [HL.out]; omega) (by simp [DM.new])).mono ?_
  rw [HC0.out, HW0.out]
  rintro e w3 ⟨ve, H3, He, rfl, he, hd3, hH3, hg3⟩
  obtain ⟨rfl, rfl⟩ := he.zero
  have HD3 := Lib.hid hd3; clear hd3 he
  have hG3 := (hG1.trans hg2).trans hg3
  clear hG1 hg2 hg3 hH2
  go_wp2_with fail
  refine (fill_any 7 128 w3 _ hH3 (by omega)).mono ?_
  rintro e w4 ⟨fv4, Hf4, rfl, hf4, hH4, hg4⟩
  have HF4 := Lib.hid hf4; clear hf4
  go_wp2_with fail
  refine (dwrite_any 1 fv4 (fillL 7 128) HD3.out (Fr := Hf4 ++ (Hf ++ Fr)) (hH4.sub (by (repeat' (first | refine sub_append ?_ ?_ | refine sub_cons ?_ ?_ | exact sub_nil)); all_goals first | (intro p hp; simp only [List.mem_append, List.mem_cons, hp, true_or, or_true]) | simp only [List.mem_append, List.mem_cons, true_or, or_true]) (fun b => by simp only [keyc_append, keyc_cons, keyc_nil]; omega)) (FrBytes.left (fun wx hx => HF4.out.at_ (Fr := []) (by simpa using hx))) (by rw [HL.out]; omega) (by simp)).mono ?_
  rw [HC1.out, HW1.out]
  rintro e w5 ⟨ve5, H5, He5, rfl, he5, hd5, hH5, hg5⟩
  have HE5 := Lib.hid he5
  obtain ⟨b5, s5, rfl, _⟩ := he5.pos (by decide)
  have HD5 := Lib.hid hd5; clear hd5 he5
  have hG5 := (hG3.trans hg4).trans hg5
  clear hG3 hg4 hg5 hH4 hH3
  go_wp2_with fail
  refine (dwaiting_any HD5.out hH5 (by simp)).mono ?_
  rintro e w6 ⟨wv, Hw, rfl, hw, hH6, hg6⟩
  have HWV := Lib.hid hw; clear hw
  obtain ⟨Aw, qw, rfl⟩ := HWV.out.val
  go_wp2_with fail
  refine (dcrash_any (.slice none 0 0) [] HD5.out (Fr := Hw ++ (He5 ++ (Hf4 ++ (Hf ++ Fr)))) (hH6.sub (by (repeat' (first | refine sub_append ?_ ?_ | refine sub_cons ?_ ?_ | exact sub_nil)); all_goals first | (intro p hp; simp only [List.mem_append, List.mem_cons, hp, true_or, or_true]) | simp only [List.mem_append, List.mem_cons, true_or, or_true]) (fun b => by simp only [keyc_append, keyc_cons, keyc_nil]; omega)) (FrBools.nil_ _) (by simp)).mono ?_
  rw [(DM.crash_none _).1, (DM.crash_none _).2]
  rintro e w7 ⟨rfl, H7, hd7, hH7, hg7⟩
  have HD7 := Lib.hid hd7; clear hd7
  have hG7 := (hG5.trans hg6).trans hg7
  clear hG5 hg6 hg7 hH5 hH6
  go_wp2_with fail
  refine (dread_any 0 HD7.out hH7).mono ?_
  rw [show (DM.read _ 0) = List.replicate 128 0 from rfl, show (DM.why _ 0 true) = 0 from rfl]
  rintro e w8 ⟨rv, re, Hr, Hre, rfl, hr, hre, hH8, hg8⟩
  obtain ⟨rfl, rfl⟩ := hre.zero
  obtain ⟨Ar, qr, rfl⟩ := hr.val
  have HR := Lib.hid hr; clear hr hre
  have hG8 := hG7.trans hg8
  clear hG7 hg8 hH7
  simp only [List.length_replicate] at HR ⊢
  go_wp2_with fail
  have hN : Holds w8 (He5 ++ (Hr ++ (H7 ++ (Hw ++ (Hf4 ++ (Hf ++ Fr)))))) := hH8.sub (by (repeat' (first | refine sub_append ?_ ?_ | refine sub_cons ?_ ?_ | exact sub_nil)); all_goals first | (intro p hp; simp only [List.mem_append, List.mem_cons, hp, true_or, or_true]) | simp only [List.mem_append, List.mem_cons, true_or, or_true]) (fun b => by simp only [keyc_append, keyc_cons, keyc_nil]; omega)
  refine (num_any _ 5 He5 _ w8 HE5.out hN (by omega)).mono ?_
  rintro e w9 ⟨rfl, rfl⟩
  go_wp2_with fail
  have hN2 := hN.alloc (.cells #[.int .i64 0] 3)
  have hsm := sameI_any (.slice Aw 1 qw) (.slice (some ⟨w8.heap.size, 0, none⟩) 1 1) [0] [0] (w8.alloc (.cells #[.int .i64 0] 3)) (HWV.out.at_ (Fr := (w8.heap.size, .cells #[.int .i64 0] 3) :: (He5 ++ (Hr ++ (H7 ++ (Hf4 ++ (Hf ++ Fr)))))) (hN2.sub (by (repeat' (first | refine sub_append ?_ ?_ | refine sub_cons ?_ ?_ | exact sub_nil)); all_goals first | (intro p hp; simp only [List.mem_append, List.mem_cons, hp, true_or, or_true]) | simp only [List.mem_append, List.mem_cons, true_or, or_true]) (fun b => by simp only [keyc_append, keyc_cons, keyc_nil]; omega))) ((nums_one w8.heap.size 0).at_ (H := [_]) hN2)
  rw [decide_eq_true rfl] at hsm
  refine hsm.mono ?_
  rintro e wb ⟨rfl, hq⟩
  have hN3 := hN2.tail.dr hq
  have hG9 := (hG8.alloc (.cells #[.int .i64 0] 3)).trans (Grew.dr hq)
  clear hsm hq hN2 hN hG8 hH8
  go_wp2_with fail
  have hN4 := hN3.alloc (.cells zs 5)
  have hz5 := IsRow.made (size := 1) (e := 5) wb.heap.size 128 zs (by rw [HZN.out]) (by simp [maxLen])
  rw [HZS.out] at hz5
  have hsm := same_any (.slice Ar 128 qr) (.slice (some ⟨wb.heap.size, 0, none⟩) 128 128) (List.replicate 128 0) (List.replicate 128 0) (wb.alloc (.cells zs 5)) (HR.out.at_ (Fr := (wb.heap.size, .cells zs 5) :: (He5 ++ (H7 ++ (Hw ++ (Hf4 ++ (Hf ++ Fr)))))) (hN4.sub (by (repeat' (first | refine sub_append ?_ ?_ | refine sub_cons ?_ ?_ | exact sub_nil)); all_goals first | (intro p hp; simp only [List.mem_append, List.mem_cons, hp, true_or, or_true]) | simp only [List.mem_append, List.mem_cons, true_or, or_true]) (fun b => by simp only [keyc_append, keyc_cons, keyc_nil]; omega))) (IsRow.reads (H := [(wb.heap.size, .cells zs 5)]) hz5 hN4)
  rw [decide_eq_true rfl] at hsm
  refine hsm.mono ?_
  rintro e wc ⟨rfl, hq⟩
  have hN5 : Holds wc (H7 ++ (He5 ++ (Hr ++ (Hw ++ (Hf4 ++ (Hf ++ Fr)))))) := (hN4.dr hq).sub (by (repeat' (first | refine sub_append ?_ ?_ | refine sub_cons ?_ ?_ | exact sub_nil)); all_goals first | (intro p hp; simp only [List.mem_append, List.mem_cons, hp, true_or, or_true]) | simp only [List.mem_append, List.mem_cons, true_or, or_true]) (fun b => by simp only [keyc_append, keyc_cons, keyc_nil]; omega)
  have hG10 := (hG9.alloc (.cells zs 5)).trans (Grew.dr hq)
  clear hsm hq hN3 hN4 hG9 hz5
  go_wp2_with fail
  refine (dsectors_any HD7.out hN5).mono ?_
  rintro e wd ⟨rfl, rfl⟩
  go_wp2_with fail
  refine (dnew_bad 0 128 _ _ (by omega)).mono ?_
  rintro e we ⟨rfl, rfl⟩
  go_wp2_with fail
  go_ret
  exact ⟨rfl, hN5.sub (by (repeat' (first | refine sub_append ?_ ?_ | refine sub_cons ?_ ?_ | exact sub_nil)); all_goals first | (intro p hp; simp only [List.mem_append, List.mem_cons, hp, true_or, or_true]) | simp only [List.mem_append, List.mem_cons, true_or, or_true]) (fun b => by simp only [keyc_append, keyc_cons, keyc_nil]; omega), hG10⟩
end Go.Proofs.Yteaeahhjkagbdaa
