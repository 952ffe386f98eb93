/-
  Chapter 8: what a chip makes of each order where no mishap is told; awake.
-/
import Derived.Test.YtndalabilfdgkaaNd4
import Derived.Test.YtndalabilfdgkaaNd7
import Derived.Test.YtndalabilfdgkaaNd8
namespace Go.Proofs.Ytndalabilfdgkaa
open Go.RowKit
set_option linter.unusedSimpArgs false
set_option linter.unusedVariables false

theorem beg_on {c : CM} (h : c.on = true) : c.beg true = ({ c with ops := c.ops + 1 }, c.mi, 0) := by
  unfold CM.beg; rw [if_neg (by rw [h]; simp), if_neg (by simp)]
theorem beg_bad {c : CM} (h : c.on = true) : c.beg false = (c, Mi.zero, 2) := by
  unfold CM.beg; rw [if_neg (by rw [h]; simp), if_pos rfl]
theorem mi_none {c : CM} (h : c.ms = []) : c.mi = Mi.zero := by unfold CM.mi; rw [h]; rfl
theorem prog_order {c : CM} {k : Nat} {x : CB} {p : Int} {raw : List UInt8} (hon : c.on = true) (hp : 0 ≤ p ∧ p ≤ (c.P : Int) - 1) (h : x.mark = true ∨ p ≠ x.next) :
    c.prog0 k x p raw = ({ c with ops := c.ops + 1, misuse := c.misuse + 1 }, 6) := by
  unfold CM.prog0; rw [decide_eq_true hp, beg_on hon]; simp only; rw [if_neg (by simp), if_pos h]
theorem prog_good {c : CM} {k : Nat} {x : CB} {p : Int} {raw : List UInt8} (hon : c.on = true) (hp : 0 ≤ p ∧ p ≤ (c.P : Int) - 1) (hm : x.mark = false) (h : p = x.next) :
    c.prog0 k x p raw = ({ c.setB k { x with pages := x.pages.set p.toNat raw, next := x.next + 1 } with ops := c.ops + 1, programs := c.programs + 1 }, 0) := by
  unfold CM.prog0; rw [decide_eq_true hp, beg_on hon]; simp only; rw [if_neg (by simp), if_neg (by rw [hm]; simp; exact h)]; rfl
theorem prog_out {c : CM} {k : Nat} {x : CB} {p : Int} {raw : List UInt8} (hon : c.on = true) (hp : ¬ (0 ≤ p ∧ p ≤ (c.P : Int) - 1)) : c.prog0 k x p raw = (c, 2) := by
  unfold CM.prog0; rw [decide_eq_false hp, beg_bad hon]; simp only; rw [if_pos (by simp)]
theorem erase_good {c : CM} {k : Nat} {x : CB} (hon : c.on = true) (hm : x.mark = false) : c.erase0 k x = ({ c.setB k { x with pages := blankB c.P c.Z, next := 0, wear := x.wear + 1 } with ops := c.ops + 1 }, 0) := by
  unfold CM.erase0; rw [beg_on hon]; simp only; rw [if_neg (by simp), if_neg (by rw [hm]; simp)]; rfl
theorem read_good {c : CM} {k : Nat} {x : CB} {p : Int} (hon : c.on = true) (hk : c.mi.kind = 0) (hx : c.blocks[k]? = some x) (hp : 0 ≤ p ∧ p ≤ (c.P : Int) - 1) :
    c.read (k : Int) p = ({ c with ops := c.ops + 1 }, x.pages.getD p.toNat [], 0) := by
  have hth : c.there (k : Int) = true := by have := (List.getElem?_eq_some_iff.1 hx).1; unfold CM.there; exact decide_eq_true (by omega)
  have hpg : c.pgood (k : Int) p = true := by unfold CM.pgood; rw [hth, decide_eq_true hp]; rfl
  unfold CM.read
  rw [hpg, beg_on hon]
  simp only
  rw [if_neg (by simp), if_neg (by rw [hk]; decide)]
  unfold CM.pageOf; rw [CM.blk_nat hx]

def zero156 : List UInt8 := List.replicate 156 0
def aw0 : CM := CM.new 2 2 128 [1] []
def awx : CB := CB.new 2 128 false
def aw1 : CM := { aw0 with ops := 1, misuse := 1 }
def awy : CB := { awx with pages := awx.pages.set 0 zero156, next := 1 }
def aw2 : CM := { aw1.setB 0 awy with ops := 2, programs := 1 }
def aw3 : CM := { aw2 with ops := 3 }
theorem aw_e1 : aw0.prog0 0 awx 1 zero156 = (aw1, 6) := prog_order (c := aw0) rfl (by show (0:Int) ≤ 1 ∧ (1:Int) ≤ 2 - 1; omega) (.inr (by show (1:Int) ≠ 0; decide))
theorem aw_e2 : aw1.prog0 0 awx 0 zero156 = (aw2, 0) := prog_good (c := aw1) rfl (by show (0:Int) ≤ 0 ∧ (0:Int) ≤ 2 - 1; omega) rfl rfl
theorem aw_e3 : aw2.read 0 0 = (aw3, zero156, 0) := read_good (c := aw2) (k := 0) (x := awy) rfl rfl rfl (by show (0:Int) ≤ 0 ∧ (0:Int) ≤ 2 - 1; omega)

set_option maxRecDepth 100000 in
set_option maxHeartbeats 4000000 in
theorem awake8_any (w : World) (Fr : HL) (hH : Holds w Fr) : Calls Try.prog 7 #[] w (RetFr (.bool true) w Fr) := by
  have k1 := err_eq
  have k2 := nil_eq
  obtain ⟨zs, hzs, hzn, hmk⟩ := make_bytes 156 (by omega)
  have HZ := Lib.hid (fun (g : Nat) => show IsBytes (.slice (some ⟨g, 0, none⟩) 156 156) zero156 [(g, .cells zs 5)] by
    have h := IsRow.made (size := 1) (e := 5) g 156 zs (by rw [hzn]) (by simp [maxLen])
    rw [hzs] at h
    exact h)
  have hmk' : ∀ w : World, (Instr.makeSlice 28 (.int .i64 156) (.int .i64 156)).run Try.prog w = .ok (.slice (some ⟨w.heap.size, 0, none⟩) 156 156) (w.alloc (.cells zs 5)) := hmk
  clear hzs hzn hmk
  have hH0 := hH.alloc (.cells #[.int .i64 1] 3)
  have hG0 := (Grew.refl w).alloc (.cells #[.int .i64 1] 3)
  have HN := Lib.hid (nnew_good 2 2 128 (.slice (some ⟨w.heap.size, 0, none⟩) 1 1) (.slice none 0 0) [1] [] _ _ hH0 (fun wx hx => ReadsAt.of_block (hx.get (List.mem_cons_self)) _ (by rfl) (Nat.le_refl _) (by simp [maxLen]) (fun j u hu => by simpa using hu))
    (fun wx hx => ⟨rfl, none, 0, rfl, Nat.le_refl _, by simp [maxLen], fun h => absurd h (by simp)⟩) (fun wx F hx => (may_none wx).mono fun e w' ⟨h1, h2⟩ => ⟨h1, h2 ▸ hx, h2 ▸ Grew.refl wx⟩) (by omega) (by omega) (by omega) (by omega) (by omega) (by omega) (by simp) (by simp) (by simp))
  have hG00 := Lib.hid hG0
  clear hH0 hG0
  go_enter Try.func7, Try.ntmps7
  go_wp2_with fail
  refine HN.out.mono ?_
  rintro e w1 ⟨dv, H0, rfl, ⟨b, g, cap, mv, rfl, hc0⟩, hH1, hg1⟩
  have hG1 := hG00.out.trans hg1
  clear HN hG00 hg1
  have HC0 := Lib.hid (show ChipAt b g cap mv aw0 H0 from hc0); clear hc0
  have hHA := hH1.alloc (.cells zs 5)
  have hGA := hG1.alloc (.cells zs 5)
  have HP1 := Lib.hid (nprogram_any 0 awx 1 (.slice (some ⟨w1.heap.size, 0, none⟩) 156 156) zero156 HC0.out (Fr := (w1.heap.size, .cells zs 5) :: ((w.heap.size, .cells #[.int .i64 1] 3) :: Fr)) (hHA.sub (by (repeat' (first | refine sub_append ?_ ?_ | refine sub_cons ?_ ?_ | exact sub_nil)); all_goals first | (intro p hp; simp only [List.mem_append, List.mem_cons, hp, true_or, or_true]) | simp only [List.mem_append, List.mem_cons, true_or, or_true]) (fun b => by simp only [keyc_append, keyc_cons, keyc_nil]; omega)) (by show (0 : Int) < 1000000000000; omega) rfl rfl rfl (fun wx hx => (HZ.out _).at_ (Fr := (w.heap.size, .cells #[.int .i64 1] 3) :: Fr) hx) (by simp [zero156, aw0, CM.new]))
  rw [aw_e1] at HP1
  clear hHA hH1 hG1
  go_wp2_with fail
  refine HP1.out.mono ?_
  rintro e w2 ⟨G2, ve2, H2, He2, rfl, he2, hc2, hH2, hg2⟩
  have HE2 := Lib.hid he2
  obtain ⟨b2, s2, rfl, _⟩ := isErrP8 he2 (show (6 : Int) ≠ 0 by decide)
  have HC2 := Lib.hid (show ChipAt b g cap mv aw1 H2 from hc2)
  clear he2 hc2 HP1 HC0
  have hG2 := hGA.trans hg2
  have hHB := hH2.alloc (.cells zs 5)
  have hGB := hG2.alloc (.cells zs 5)
  have HP2 := Lib.hid (nprogram_any 0 awx 0 (.slice (some ⟨w2.heap.size, 0, none⟩) 156 156) zero156 HC2.out (Fr := (w2.heap.size, .cells zs 5) :: (He2 ++ (G2 ++ ((w1.heap.size, .cells zs 5) :: ((w.heap.size, .cells #[.int .i64 1] 3) :: Fr))))) (hHB.sub (by (repeat' (first | refine sub_append ?_ ?_ | refine sub_cons ?_ ?_ | exact sub_nil)); all_goals first | (intro p hp; simp only [List.mem_append, List.mem_cons, hp, true_or, or_true]) | simp only [List.mem_append, List.mem_cons, true_or, or_true]) (fun b => by simp only [keyc_append, keyc_cons, keyc_nil]; omega)) (by show (1 : Int) < 1000000000000; omega) rfl rfl rfl (fun wx hx => (HZ.out _).at_ (Fr := He2 ++ (G2 ++ ((w1.heap.size, .cells zs 5) :: ((w.heap.size, .cells #[.int .i64 1] 3) :: Fr)))) hx) (by simp [zero156, aw1, aw0, CM.new]))
  rw [aw_e2] at HP2
  clear hHB hH2 hG2 hGA hg2
  go_wp2_with fail
  refine HP2.out.mono ?_
  rintro e w3 ⟨G3, ve3, H3, He3, rfl, he3, hc3, hH3, hg3⟩
  obtain ⟨rfl, rfl⟩ := isErr0 he3
  have HC3 := Lib.hid (show ChipAt b g cap mv aw2 H3 from hc3)
  have hG3 := hGB.trans hg3
  clear he3 hc3 HP2 HC2 hGB hg3
  have HR := Lib.hid (nread_any 0 0 HC3.out hH3 (by show (2 : Int) ≤ 1000000000000; omega))
  rw [aw_e3] at HR
  go_wp2_with fail
  refine HR.out.mono ?_
  rintro e w4 ⟨v4, ve4, H4, Hv4, He4, G4, rfl, hb4, he4, hc4, hH4, hg4⟩
  obtain ⟨rfl, rfl⟩ := isErr0 he4
  have HC4 := Lib.hid (show ChipAt b g cap mv aw3 H4 from hc4)
  have hG4 := hG3.trans hg4
  obtain ⟨A4, q4, rfl⟩ := hb4.val
  have hl4 : zero156.length = 156 := by simp [zero156]
  rw [hl4] at hb4
  have HB4 := Lib.hid hb4
  clear he4 hc4 HR HC3 hG3 hg4 hH3 hb4
  have hbt := nboot_any HC4.out hH4
  rw [if_pos (show aw3.on = true from rfl)] at hbt
  have HBT := Lib.hid hbt
  clear hbt
  go_wp2_with fail
  refine HBT.out.mono ?_
  rintro e w5 ⟨ve5, H5, He5, rfl, he5, hc5, hH5, hg5⟩
  have HE5 := Lib.hid he5
  obtain ⟨b5, s5, rfl, _⟩ := isErrP8 he5 (show (9 : Int) ≠ 0 by decide)
  have HC5 := Lib.hid (show ChipAt b g cap mv aw3 H5 from hc5)
  have hG5 := hG4.trans hg5
  clear he5 hc5 HBT HC4 hG4 hg5 hH4
  go_wp2_with fail
  refine (num_any _ 6 He2 (H5 ++ (He5 ++ (Hv4 ++ (G4 ++ (G3 ++ (G2 ++ Fr)))))) w5 HE2.out (hH5.sub (by (repeat' (first | refine sub_append ?_ ?_ | refine sub_cons ?_ ?_ | exact sub_nil)); all_goals first | (intro p hp; simp only [List.mem_append, List.mem_cons, hp, true_or, or_true]) | simp only [List.mem_append, List.mem_cons, true_or, or_true]) (fun b => by simp only [keyc_append, keyc_cons, keyc_nil]; omega)) (by omega)).mono ?_
  rintro e wx ⟨rfl, rfl⟩
  have hH6 := hH5.alloc (.cells zs 5)
  have hG6 := hG5.alloc (.cells zs 5)
  have hsm := same_any (.slice A4 156 q4) (.slice (some ⟨w5.heap.size, 0, none⟩) 156 156) zero156 zero156 (w5.alloc (.cells zs 5)) (by have := (show IsBytes (.slice A4 156 q4) zero156 Hv4 from HB4.out).at_ (Fr := H5 ++ (He5 ++ Fr)) (w := w5.alloc (.cells zs 5)) (hH6.sub (by (repeat' (first | refine sub_append ?_ ?_ | refine sub_cons ?_ ?_ | exact sub_nil)); all_goals first | (intro p hp; simp only [List.mem_append, List.mem_cons, hp, true_or, or_true]) | simp only [List.mem_append, List.mem_cons, true_or, or_true]) (fun b => by simp only [keyc_append, keyc_cons, keyc_nil]; omega)); exact this) ((HZ.out _).at_ (Fr := H5 ++ (He5 ++ (Hv4 ++ Fr))) (hH6.sub (by (repeat' (first | refine sub_append ?_ ?_ | refine sub_cons ?_ ?_ | exact sub_nil)); all_goals first | (intro p hp; simp only [List.mem_append, List.mem_cons, hp, true_or, or_true]) | simp only [List.mem_append, List.mem_cons, true_or, or_true]) (fun b => by simp only [keyc_append, keyc_cons, keyc_nil]; omega)))
  rw [decide_eq_true rfl] at hsm
  have HSM := Lib.hid hsm
  have hHa : Holds (w5.alloc (.cells zs 5)) (H5 ++ (He5 ++ Fr)) := hH6.sub (by (repeat' (first | refine sub_append ?_ ?_ | refine sub_cons ?_ ?_ | exact sub_nil)); all_goals first | (intro p hp; simp only [List.mem_append, List.mem_cons, hp, true_or, or_true]) | simp only [List.mem_append, List.mem_cons, true_or, or_true]) (fun b => by simp only [keyc_append, keyc_cons, keyc_nil]; omega)
  clear hsm hH6 hH5 hG5
  go_wp2_with fail
  refine HSM.out.mono ?_
  rintro e w9 ⟨rfl, hq9⟩
  have hHb := hHa.dr hq9
  have hGb := hG6.trans (Grew.dr hq9)
  clear hHa hG6 hq9 HSM
  go_wp2_with fail
  refine (num_any _ 9 He5 (H5 ++ Fr) w9 HE5.out (hHb.sub (by (repeat' (first | refine sub_append ?_ ?_ | refine sub_cons ?_ ?_ | exact sub_nil)); all_goals first | (intro p hp; simp only [List.mem_append, List.mem_cons, hp, true_or, or_true]) | simp only [List.mem_append, List.mem_cons, true_or, or_true]) (fun b => by simp only [keyc_append, keyc_cons, keyc_nil]; omega)) (by omega)).mono ?_
  rintro e wx ⟨rfl, rfl⟩
  go_wp2_with fail
  refine (nmisuse_any HC5.out hHb).mono ?_
  rintro e wx ⟨rfl, rfl⟩
  rw [show aw3.misuse = 1 from rfl]
  go_wp2_with fail
  refine (nmarked_any 1 HC5.out hHb).mono ?_
  rintro e wx ⟨rfl, rfl⟩
  rw [show aw3.markOf 1 = true from rfl]
  go_wp2_with fail
  refine (non_any HC5.out hHb).mono ?_
  rintro e wx ⟨rfl, rfl⟩
  rw [show aw3.on = true from rfl]
  go_wp2_with fail
  refine (nops_any HC5.out hHb).mono ?_
  rintro e wx ⟨rfl, rfl⟩
  rw [show aw3.ops = 3 from rfl]
  go_wp2_with fail
  refine (nnext_any 0 HC5.out hHb).mono ?_
  rintro e wx ⟨rfl, rfl⟩
  rw [show aw3.nextOf 0 = 1 from rfl]
  go_wp2_with fail
  go_ret
  exact ⟨rfl, hHb.right.right, hGb⟩
end Go.Proofs.Ytndalabilfdgkaa
