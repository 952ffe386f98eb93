/-
  Package nand: wrong, between, there, raw, dark, begin, ordered, and what only reads.
-/
import Derived.Test.YtndalabilfdgkaaNd
import Derived.Test.YtndalabilfdgkaaOrd2
import Derived.Deep.DeepCutAuto
namespace Go.Proofs.Ytndalabilfdgkaa
open Go.RowKit
set_option linter.unusedSimpArgs false
set_option linter.unusedVariables false

set_option maxRecDepth 20000 in
theorem nwrong_any (c : Int) (w : World) (Fr : HL) (hc : c ≠ 0) (hH : Holds w Fr) : Calls Try.prog 34 #[.int .i64 c] w (RetErr c w Fr) := by
  have hc' := Lib.hid hc; clear hc
  go_enter Try.func34, Try.ntmps34
  go_wp2_with fail
  go_ret
  exact ⟨_, _, rfl, .inr ⟨hc'.out, _, _, rfl, rfl⟩, hH.alloc _, (Grew.refl w).alloc _⟩
set_option maxRecDepth 20000 in
theorem nbetween_any (n lo hi : Int) (w : World) : Calls Try.prog 25 #[.int .i64 n, .int .i64 lo, .int .i64 hi] w fun e w' => e = .returned (.bool (decide (lo ≤ n ∧ n ≤ hi))) ∧ w = w' := by
  by_cases h1 : lo ≤ n
  · by_cases h2 : n ≤ hi
    · go_enter Try.func25, Try.ntmps25
      go_wp2_with fail
      go_ret
      exact ⟨ret_b (by simp [h1, h2]), rfl⟩
    · go_enter Try.func25, Try.ntmps25
      go_wp2_with fail
      go_ret
      exact ⟨ret_b (by simp; omega), rfl⟩
  · go_enter Try.func25, Try.ntmps25
    go_wp2_with fail
    go_ret
    exact ⟨ret_b (by simp; omega), rfl⟩

def CM.there (c : CM) (k : Int) : Bool := decide (0 ≤ k ∧ k < (c.blocks.length : Int))
/-- returned an error of number code; the chip is c' -/
def RetCh (b g cap : Nat) (mv : Value) (c' : CM) (code : Int) (w : World) (Fr : HL) (e : Ending) (w' : World) : Prop :=
  ∃ ve H He, e = .returned ve ∧ IsErr ve code He ∧ ChipAt b g cap mv c' H ∧ Holds w' (H ++ (He ++ Fr)) ∧ Grew w w'

section
variable {b g cap : Nat} {mv : Value} {c : CM} {H Fr : HL} {w : World}
set_option maxRecDepth 20000 in
theorem nthere_any (k : Int) (h : ChipAt b g cap mv c H) (hH : Holds w (H ++ Fr)) : Calls Try.prog 30 #[.pointer (some ⟨b, 0, none⟩), .int .i64 k] w fun e w' => e = .returned (.bool (c.there k)) ∧ w = w' := by
  have c3 := (h.heads hH).2.2.2.1
  have hcap := h.caps
  unfold maxLen at hcap
  have hok := h.cok
  have h32 := hok.2.2.2.2.2.1
  have h01 := hok.2.2.2.2.1
  clear h hok
  have HB := Lib.hid (fun w => nbetween_any k 0 ((c.blocks.length : Int) - 1) w)
  have HE := Lib.hid (show decide (0 ≤ k ∧ k ≤ (c.blocks.length : Int) - 1) = c.there k by unfold CM.there; congr 1; apply propext; omega)
  generalize c.blocks.length = n at *
  go_enter Try.func30, Try.ntmps30
  go_wp2_with fail
  refine (HB.out w).mono ?_
  rintro e wx ⟨rfl, rfl⟩
  rw [HE.out]
  go_wp2_with fail
  go_ret
  exact ⟨rfl, rfl⟩
set_option maxRecDepth 20000 in
theorem nthere_nil (k : Int) (w : World) : Calls Try.prog 30 #[.pointer none, .int .i64 k] w fun e w' => e = .returned (.bool false) ∧ w = w' := by
  go_enter Try.func30, Try.ntmps30
  go_wp2_with fail
  go_ret
  exact ⟨rfl, rfl⟩
set_option maxRecDepth 20000 in
theorem nraw_any (h : ChipAt b g cap mv c H) (hH : Holds w (H ++ Fr)) : Calls Try.prog 31 #[.pointer (some ⟨b, 0, none⟩)] w fun e w' => e = .returned (.int .i64 ((c.Z : Int) + 28)) ∧ w = w' := by
  have c2 := (h.heads hH).2.2.1
  have hz := h.cok.2.2.2.1
  clear h
  go_enter Try.func31, Try.ntmps31
  go_wp2_with fail
  go_ret
  exact ⟨rfl, rfl⟩
set_option maxRecDepth 20000 in
theorem ndark_any (h : ChipAt b g cap mv c H) (hH : Holds w (H ++ Fr)) : Calls Try.prog 33 #[.pointer (some ⟨b, 0, none⟩)] w (RetCh b g cap mv { c with on := false } 4 w Fr) := by
  obtain ⟨_, _, _, _, _, c5, _, _, _, f5, _⟩ := h.heads hH
  obtain ⟨H', h', hH'⟩ := h.setOn hH false
  have HC := Lib.hid h'
  have HH := Lib.hid hH'
  clear h h' hH'
  go_enter Try.func33, Try.ntmps33
  go_wp2_with fail
  refine (nwrong_any 4 _ (H' ++ Fr) (by omega) HH.out).mono ?_
  rintro e w1 ⟨ve, He, rfl, he, hH1, hg1⟩
  have HE := Lib.hid he; clear he
  go_wp2_with fail
  go_ret
  exact ⟨ve, H', He, rfl, HE.out, HC.out, hH1.swap, ((Grew.refl w).setCell _ _).trans hg1⟩

theorem Holds.back1 {w : World} {p : Nat × Obj} {A R : HL} (h : Holds w (p :: (A ++ R))) : Holds w (A ++ (p :: R)) := h.sub (by (repeat' (first | refine sub_append ?_ ?_ | refine sub_cons ?_ ?_ | exact sub_nil)); all_goals first | (intro p hp; simp only [List.mem_append, List.mem_cons, hp, true_or, or_true]) | simp only [List.mem_append, List.mem_cons, true_or, or_true]) (fun b => by simp only [keyc_append, keyc_cons, keyc_nil]; omega)
/-- a struct of four cells is stored anew -/
theorem Holds.set4 {w : World} {t : Nat} {a0 a1 a2 a3 : Value} {T : TypeId} {F : HL} (h : Holds w ((t, .cells #[a0, a1, a2, a3] T) :: F)) (v0 v1 v2 v3 : Value) :
    Holds ((((w.setCell ⟨t, 0, none⟩ v0).setCell ⟨t, 1, none⟩ v1).setCell ⟨t, 2, none⟩ v2).setCell ⟨t, 3, none⟩ v3) ((t, .cells #[v0, v1, v2, v3] T) :: F) :=
  Holds.set (Holds.set (Holds.set (Holds.set h 0 v0) 1 v1) 2 v2) 3 v3
theorem Grew.set4 {a w : World} (h : Grew a w) (t : Nat) (v0 v1 v2 v3 : Value) : Grew a ((((w.setCell ⟨t, 0, none⟩ v0).setCell ⟨t, 1, none⟩ v1).setCell ⟨t, 2, none⟩ v2).setCell ⟨t, 3, none⟩ v3) := (((h.setCell _ _).setCell _ _).setCell _ _).setCell _ _
theorem Holds.get4 {w : World} {t : Nat} {a0 a1 a2 a3 : Value} {T : TypeId} {F : HL} (h : Holds w ((t, .cells #[a0, a1, a2, a3] T) :: F)) :
    w.cell? ⟨t, 0, none⟩ = some a0 ∧ w.cell? ⟨t, 1, none⟩ = some a1 ∧ w.cell? ⟨t, 2, none⟩ = some a2 ∧ w.cell? ⟨t, 3, none⟩ = some a3 ∧ w.frozen? ⟨t, 0, none⟩ = false ∧ w.frozen? ⟨t, 1, none⟩ = false ∧ w.frozen? ⟨t, 2, none⟩ = false ∧ w.frozen? ⟨t, 3, none⟩ = false :=
  ⟨by simpa using h.hcell 0, by simpa using h.hcell 1, by simpa using h.hcell 2, by simpa using h.hcell 3, h.hfrozen 0, h.hfrozen 1, h.hfrozen 2, h.hfrozen 3⟩
/-- begin: what the chip is, which mishap befalls, which error -/
def CM.mi (c : CM) : Mi := (miAt (c.ops + 1) c.ms).getD Mi.zero
def CM.beg (c : CM) (good : Bool) : CM × Mi × Int := if c.on = false then (c, Mi.zero, 4) else if good = false then (c, Mi.zero, 2) else ({ c with ops := c.ops + 1 }, c.mi, 0)
def RetBeg (b g cap : Nat) (mv : Value) (r : CM × Mi × Int) (w : World) (Fr : HL) (e : Ending) (w' : World) : Prop :=
  ∃ ve H He G, e = .returned (.tuple #[r.2.1.agg, ve]) ∧ IsErr ve r.2.2 He ∧ ChipAt b g cap mv r.1 H ∧ Holds w' (H ++ (He ++ (G ++ Fr))) ∧ Grew w w'
set_option maxRecDepth 20000 in
set_option maxHeartbeats 2000000 in
theorem nbegin_any (good : Bool) (h : ChipAt b g cap mv c H) (hH : Holds w (H ++ Fr)) (hops : c.ops ≤ 1000000000000) : Calls Try.prog 29 #[.pointer (some ⟨b, 0, none⟩), .bool good] w (RetBeg b g cap mv (c.beg good) w Fr) := by
  have HI := Lib.hid h
  have hres : Try.f29.results = #[ResultVar.cell 4 47, ResultVar.tmp 5] := by rfl
  have hHA := hH.alloc (.cells #[.int .i64 0, .int .i64 0, .int .i64 0, .int .u8 0] 47)
  have hGA := (Grew.refl w).alloc (.cells #[.int .i64 0, .int .i64 0, .int .i64 0, .int .u8 0] 47)
  have HHD := Lib.hid (fun (wx : World) (F : HL) (hx : Holds wx (H ++ F)) => h.heads hx)
  obtain ⟨c0, _, _, _, c4, c5, c6, _, _, f5, f6, _⟩ := h.heads hHA.tail
  have hk := h.cok.2.2.2.2.2.2.2.2.1
  unfold CM.beg
  rcases (Bool.eq_false_or_eq_true c.on).symm with hon | hon
  · rw [if_pos hon]
    rw [hon] at c5
    clear hon
    clear h hH
    go_enter Try.func29, Try.ntmps29
    go_wp2_with fail
    refine (nwrong_any 4 _ _ (by omega) hHA).mono ?_
    rintro e w1 ⟨ve, He, rfl, he, hH1, hg1⟩
    have HE := Lib.hid he; clear he
    have hH2 : Holds w1 ((w.heap.size, .cells #[.int .i64 0, .int .i64 0, .int .i64 0, .int .u8 0] 47) :: (H ++ (He ++ ([] ++ Fr)))) := hH1.sub (by (repeat' (first | refine sub_append ?_ ?_ | refine sub_cons ?_ ?_ | exact sub_nil)); all_goals first | (intro p hp; simp only [List.mem_append, List.mem_cons, hp, true_or, or_true]) | simp only [List.mem_append, List.mem_cons, true_or, or_true]) (fun b => by simp only [keyc_append, keyc_cons, keyc_nil]; omega)
    have hG1 := hGA.trans hg1
    generalize w.heap.size = t at *
    obtain ⟨z0, z1, z2, z3, g0, g1, g2, g3⟩ := hH2.get4
    clear hHA hH1 c0 c4 c5 c6 f5 f6
    go_wp2_with fail
    have hS := hH2.set4 (.int .i64 0) (.int .i64 0) (.int .i64 0) (.int .u8 0)
    have hGS := hG1.set4 t (.int .i64 0) (.int .i64 0) (.int .i64 0) (.int .u8 0)
    generalize (((w1.setCell ⟨t, 0, none⟩ (.int .i64 0)).setCell ⟨t, 1, none⟩ (.int .i64 0)).setCell ⟨t, 2, none⟩ (.int .i64 0)).setCell ⟨t, 3, none⟩ (.int .u8 0) = wf at *
    obtain ⟨u0, u1, u2, u3, _⟩ := hS.get4
    refine bodyPost_ret (v := .tuple #[.agg #[.int .i64 0, .int .i64 0, .int .i64 0, .int .u8 0], ve]) ?_ rfl ⟨ve, H, He, [], rfl, HE.out, HI.out, hS.tail, hGS⟩
    unfold results
    rw [hres]
    go_simp
  · rw [if_neg (by rw [hon]; simp)]
    rw [hon] at c5
    clear hon
    cases good
    · rw [if_pos rfl]
      clear h hH
      go_enter Try.func29, Try.ntmps29
      go_wp2_with fail
      refine (nwrong_any 2 _ _ (by omega) hHA).mono ?_
      rintro e w1 ⟨ve, He, rfl, he, hH1, hg1⟩
      have HE := Lib.hid he; clear he
      have hH2 : Holds w1 ((w.heap.size, .cells #[.int .i64 0, .int .i64 0, .int .i64 0, .int .u8 0] 47) :: (H ++ (He ++ ([] ++ Fr)))) := hH1.sub (by (repeat' (first | refine sub_append ?_ ?_ | refine sub_cons ?_ ?_ | exact sub_nil)); all_goals first | (intro p hp; simp only [List.mem_append, List.mem_cons, hp, true_or, or_true]) | simp only [List.mem_append, List.mem_cons, true_or, or_true]) (fun b => by simp only [keyc_append, keyc_cons, keyc_nil]; omega)
      have hG1 := hGA.trans hg1
      generalize w.heap.size = t at *
      obtain ⟨z0, z1, z2, z3, g0, g1, g2, g3⟩ := hH2.get4
      clear hHA hH1 c0 c4 c5 c6 f5 f6
      go_wp2_with fail
      have hS := hH2.set4 (.int .i64 0) (.int .i64 0) (.int .i64 0) (.int .u8 0)
      have hGS := hG1.set4 t (.int .i64 0) (.int .i64 0) (.int .i64 0) (.int .u8 0)
      generalize (((w1.setCell ⟨t, 0, none⟩ (.int .i64 0)).setCell ⟨t, 1, none⟩ (.int .i64 0)).setCell ⟨t, 2, none⟩ (.int .i64 0)).setCell ⟨t, 3, none⟩ (.int .u8 0) = wf at *
      obtain ⟨u0, u1, u2, u3, _⟩ := hS.get4
      refine bodyPost_ret (v := .tuple #[.agg #[.int .i64 0, .int .i64 0, .int .i64 0, .int .u8 0], ve]) ?_ rfl ⟨ve, H, He, [], rfl, HE.out, HI.out, hS.tail, hGS⟩
      unfold results
      rw [hres]
      go_simp
    · rw [if_neg (by simp)]
      obtain ⟨H', h', hH'⟩ := h.setOps (F := (w.heap.size, .cells #[.int .i64 0, .int .i64 0, .int .i64 0, .int .u8 0] 47) :: Fr) (hHA.sub (by (repeat' (first | refine sub_append ?_ ?_ | refine sub_cons ?_ ?_ | exact sub_nil)); all_goals first | (intro p hp; simp only [List.mem_append, List.mem_cons, hp, true_or, or_true]) | simp only [List.mem_append, List.mem_cons, true_or, or_true]) (fun b => by simp only [keyc_append, keyc_cons, keyc_nil]; omega))
      have HC := Lib.hid h'
      have HH := Lib.hid hH'
      have HMI := Lib.hid (show (miAt (c.ops + 1) c.ms).getD Mi.zero = c.mi from rfl)
      clear h hH h' hH'
      go_enter Try.func29, Try.ntmps29
      go_upto_region 8 with fail
      have hHr := HH.out
      have hgr := hGA.setCell ⟨b, 6, none⟩ (.int .i64 (c.ops + 1))
      clear HH hGA hHA c0 c4 c5 c6 f5 f6
      generalize (w.alloc (.cells #[.int .i64 0, .int .i64 0, .int .i64 0, .int .u8 0] 47)).setCell ⟨b, 6, none⟩ (.int .i64 (c.ops + 1)) = wA at *
      generalize w.heap.size = t at *
      obtain ⟨⟨ma, mk, mb, mf⟩, hm⟩ : ∃ m, m = c.mi := ⟨_, rfl⟩
      have HM := Lib.hid (show (miAt (c.ops + 1) c.ms).getD Mi.zero = ⟨ma, mk, mb, mf⟩ from hm.symm)
      have HMI := Lib.hid hm; clear hm
      have HS := Lib.hid (fun (wx : World) (F : HL) (hx : Holds wx (H' ++ F)) => And.intro (HC.out.heads hx).2.2.2.2.1 (HC.out.heads hx).2.2.2.2.2.2.1)
      refine Y_begin (fun wx => wx.cell? ⟨b, 4, none⟩ = some mv ∧ wx.cell? ⟨b, 6, none⟩ = some (.int .i64 (c.ops + 1))) 13 (by kernel_rfl) (fun w1 hd => HS.out _ _ (hHr.dr hd)) (fun w1 hd hs => ?_)
      have hC := hHr.dr hd; have hG := hgr.trans (Grew.dr hd); clear hd hHr hgr; obtain ⟨wc, rfl⟩ : ∃ x, x = w1 := ⟨_, rfl⟩
      refine Y_takeT 0 (some 34) (v := ?_) rfl rfl (by kernel_rfl) (fun _ _ _ h => h) (by rfl) hs ?_ ?_
      rotate_left
      · intro wx; go_simp; try with_reducible rfl
      simp only [Act.put, List.setIfInBounds_toArray, List.set_cons_succ, List.set_cons_zero]
      refine Y_takeT 1 (some 35) (v := ?_) rfl rfl (by kernel_rfl) (fun _ _ _ h => h) (by rfl) hs ?_ ?_
      rotate_left
      · intro wx; go_simp; try with_reducible rfl
      simp only [Act.put, List.setIfInBounds_toArray, List.set_cons_succ, List.set_cons_zero]
      refine Y_takeT 2 (some 36) (v := ?_) rfl rfl (by kernel_rfl) (fun _ _ _ h => h) (by rfl) hs ?_ ?_
      rotate_left
      · intro wx; go_simp; try with_reducible rfl
      simp only [Act.put, List.setIfInBounds_toArray, List.set_cons_succ, List.set_cons_zero]
      refine Y_takeD 3 (some 37) (v := ?_) rfl rfl (by kernel_rfl) (fun _ _ _ h => h) (by rfl) hs ?_ ?_
      rotate_left
      · intro wx hx; obtain ⟨x1, x2⟩ := hx; go_simp; try with_reducible rfl
      simp only [Act.put, List.setIfInBounds_toArray, List.set_cons_succ, List.set_cons_zero]
      refine Y_takeT 4 (some 38) (v := ?_) rfl rfl (by kernel_rfl) (fun _ _ _ h => h) (by rfl) hs ?_ ?_
      rotate_left
      · intro wx; go_simp; try with_reducible rfl
      simp only [Act.put, List.setIfInBounds_toArray, List.set_cons_succ, List.set_cons_zero]
      refine Y_takeT 5 (some 39) (v := ?_) rfl rfl (by kernel_rfl) (fun _ _ _ h => h) (by rfl) hs ?_ ?_
      rotate_left
      · intro wx; go_simp; try with_reducible rfl
      simp only [Act.put, List.setIfInBounds_toArray, List.set_cons_succ, List.set_cons_zero]
      refine Y_takeT 6 (some 40) (v := ?_) rfl rfl (by kernel_rfl) (fun _ _ _ h => h) (by rfl) hs ?_ ?_
      rotate_left
      · intro wx; go_simp; try with_reducible rfl
      simp only [Act.put, List.setIfInBounds_toArray, List.set_cons_succ, List.set_cons_zero]
      refine Y_takeD 7 (some 41) (v := ?_) rfl rfl (by kernel_rfl) (fun _ _ _ h => h) (by rfl) hs ?_ ?_
      rotate_left
      · intro wx hx; obtain ⟨x1, x2⟩ := hx; go_simp; try with_reducible rfl
      simp only [Act.put, List.setIfInBounds_toArray, List.set_cons_succ, List.set_cons_zero]
      refine Y_two 8 12 rfl rfl (by kernel_rfl) (fun K hK => ?_) (fun K hK => ?_)
      have ⟨x1, x2⟩ := hs
      go_simp; have hmat := mat_any (c.ops + 1) mv c.ms wc _ (fun wx hx => HC.out.mis hx) hC; rw [HM.out] at hmat; simp only [Mi.agg, cellB] at hmat; refine hmat.mono ?_; clear hmat; rintro e wq ⟨rfl, hC8, gg8⟩   -- call
      clear x1 x2
      refine hK _ _ (HS.out _ _ hC8) (fun hs2 => ?_); clear hK K hs; have hs := hs2; clear hs2
      have hG2 := hG.trans gg8; clear hC hG gg8; have hC := hC8; have hG := hG2; clear hC8 hG2; clear wc; obtain ⟨wc, rfl⟩ : ∃ x, x = wq := ⟨_, rfl⟩
      refine Y_takeT 9 (some 33) (v := ?_) rfl rfl (by kernel_rfl) (fun _ _ _ h => h) (by rfl) hs ?_ ?_
      rotate_left
      · intro wx; go_simp; try with_reducible rfl
      simp only [Act.put, List.setIfInBounds_toArray, List.set_cons_succ, List.set_cons_zero]
      refine Y_takeT 10 (some 43) (v := ?_) rfl rfl (by kernel_rfl) (fun _ _ _ h => h) (by rfl) hs ?_ ?_
      rotate_left
      · intro wx; go_simp; try with_reducible rfl
      simp only [Act.put, List.setIfInBounds_toArray, List.set_cons_succ, List.set_cons_zero]
      refine Y_takeT 11 (some 44) (v := ?_) rfl rfl (by kernel_rfl) (fun _ _ _ h => h) (by rfl) hs ?_ ?_
      rotate_left
      · intro wx; go_simp; try with_reducible rfl
      simp only [Act.put, List.setIfInBounds_toArray, List.set_cons_succ, List.set_cons_zero]
      refine Y_mid 12 rfl (by kernel_rfl) (fun K hK => ?_)
      have ⟨x1, x2⟩ := hs
      go_simp   -- alloc
      clear x1 x2
      refine hK _ _ (HS.out _ _ (Holds.back1 (hC.alloc _))) (fun hs2 => ?_); clear hK K hs; have hs := hs2; clear hs2
      have hC2 := Holds.back1 (hC.alloc (.cells #[.int .i64 0, .int .i64 0, .int .i64 0, .int .u8 0] 47)); have hG2 := hG.alloc (.cells #[.int .i64 0, .int .i64 0, .int .i64 0, .int .u8 0] 47); clear hC hG; generalize wc.alloc (.cells #[.int .i64 0, .int .i64 0, .int .i64 0, .int .u8 0] 47) = wq at *; generalize wc.heap.size = g12 at *; clear wc; have hC := hC2; have hG := hG2; clear hC2 hG2; obtain ⟨wc, rfl⟩ : ∃ x, x = wq := ⟨_, rfl⟩
      refine Y_late 13 rfl (by kernel_rfl) (by kernel_rfl) (fun K hK => ?_)
      have ⟨x1, x2⟩ := hs
      have hD : Holds wc ((g12, .cells #[.int .i64 0, .int .i64 0, .int .i64 0, .int .u8 0] 47) :: ((t, .cells #[.int .i64 0, .int .i64 0, .int .i64 0, .int .u8 0] 47) :: (H' ++ Fr))) := hC.sub (by (repeat' (first | refine sub_append ?_ ?_ | refine sub_cons ?_ ?_ | exact sub_nil)); all_goals first | (intro p hp; simp only [List.mem_append, List.mem_cons, hp, true_or, or_true]) | simp only [List.mem_append, List.mem_cons, true_or, or_true]) (fun b => by simp only [keyc_append, keyc_cons, keyc_nil]; omega); obtain ⟨z0, z1, z2, z3, g0, g1, g2, g3⟩ := hD.get4; go_simp; clear z0 z1 z2 z3 g0 g1 g2 g3 hC   -- store
      clear x1 x2 hs
      refine hK _ _ ?_; clear hK K
      refine Y_late 14 rfl (by kernel_rfl) (by kernel_rfl) (fun K hK => ?_)
      go_simp   -- assign
      refine hK _ _ ?_; clear hK K
      refine Y_done (by kernel_rfl) ?_ _
      rotate_left
      have ⟨x1, x2⟩ := hs
      go_simp   -- alloc
      clear x1 x2
      refine hK _ _ (HS.out _ _ (Holds.back1 (hC.alloc _))) (fun hs2 => ?_); clear hK K hs; have hs := hs2; clear hs2
      have hC2 := Holds.back1 (hC.alloc (.cells #[.int .i64 0, .int .i64 0, .int .i64 0, .int .u8 0] 47)); have hG2 := hG.alloc (.cells #[.int .i64 0, .int .i64 0, .int .i64 0, .int .u8 0] 47); clear hC hG; generalize wc.alloc (.cells #[.int .i64 0, .int .i64 0, .int .i64 0, .int .u8 0] 47) = wq at *; generalize wc.heap.size = g12 at *; clear wc; have hC := hC2; have hG := hG2; clear hC2 hG2; obtain ⟨wc, rfl⟩ : ∃ x, x = wq := ⟨_, rfl⟩
      refine Y_mid 8 rfl (by kernel_rfl) (fun K hK => ?_)
      have ⟨x1, x2⟩ := hs
      go_simp; have hmat := mat_any (c.ops + 1) mv c.ms wc _ (fun wx hx => HC.out.mis hx) hC; rw [HM.out] at hmat; simp only [Mi.agg, cellB] at hmat; refine hmat.mono ?_; clear hmat; rintro e wq ⟨rfl, hC8, gg8⟩   -- call
      clear x1 x2
      refine hK _ _ (HS.out _ _ hC8) (fun hs2 => ?_); clear hK K hs; have hs := hs2; clear hs2
      have hG2 := hG.trans gg8; clear hC hG gg8; have hC := hC8; have hG := hG2; clear hC8 hG2; clear wc; obtain ⟨wc, rfl⟩ : ∃ x, x = wq := ⟨_, rfl⟩
      refine Y_takeT 9 (some 33) (v := ?_) rfl rfl (by kernel_rfl) (fun _ _ _ h => h) (by rfl) hs ?_ ?_
      rotate_left
      · intro wx; go_simp; try with_reducible rfl
      simp only [Act.put, List.setIfInBounds_toArray, List.set_cons_succ, List.set_cons_zero]
      refine Y_takeT 10 (some 43) (v := ?_) rfl rfl (by kernel_rfl) (fun _ _ _ h => h) (by rfl) hs ?_ ?_
      rotate_left
      · intro wx; go_simp; try with_reducible rfl
      simp only [Act.put, List.setIfInBounds_toArray, List.set_cons_succ, List.set_cons_zero]
      refine Y_takeT 11 (some 44) (v := ?_) rfl rfl (by kernel_rfl) (fun _ _ _ h => h) (by rfl) hs ?_ ?_
      rotate_left
      · intro wx; go_simp; try with_reducible rfl
      simp only [Act.put, List.setIfInBounds_toArray, List.set_cons_succ, List.set_cons_zero]
      refine Y_late 13 rfl (by kernel_rfl) (by kernel_rfl) (fun K hK => ?_)
      have ⟨x1, x2⟩ := hs
      have hD : Holds wc ((g12, .cells #[.int .i64 0, .int .i64 0, .int .i64 0, .int .u8 0] 47) :: ((t, .cells #[.int .i64 0, .int .i64 0, .int .i64 0, .int .u8 0] 47) :: (H' ++ Fr))) := hC.sub (by (repeat' (first | refine sub_append ?_ ?_ | refine sub_cons ?_ ?_ | exact sub_nil)); all_goals first | (intro p hp; simp only [List.mem_append, List.mem_cons, hp, true_or, or_true]) | simp only [List.mem_append, List.mem_cons, true_or, or_true]) (fun b => by simp only [keyc_append, keyc_cons, keyc_nil]; omega); obtain ⟨z0, z1, z2, z3, g0, g1, g2, g3⟩ := hD.get4; go_simp; clear z0 z1 z2 z3 g0 g1 g2 g3 hC   -- store
      clear x1 x2 hs
      refine hK _ _ ?_; clear hK K
      refine Y_late 14 rfl (by kernel_rfl) (by kernel_rfl) (fun K hK => ?_)
      go_simp   -- assign
      refine hK _ _ ?_; clear hK K
      refine Y_done (by kernel_rfl) ?_ _
      rotate_left
      all_goals
        have hE := hD.set4 (.int .i64 ma) (.int .i64 mk) (.int .i64 mb) (.int .u8 (mf.toNat : Int))
        have hGE := hG.set4 g12 (.int .i64 ma) (.int .i64 mk) (.int .i64 mb) (.int .u8 (mf.toNat : Int))
        generalize (((wc.setCell ⟨g12, 0, none⟩ (.int .i64 ma)).setCell ⟨g12, 1, none⟩ (.int .i64 mk)).setCell ⟨g12, 2, none⟩ (.int .i64 mb)).setCell ⟨g12, 3, none⟩ (.int .u8 (mf.toNat : Int)) = wb at *
        obtain ⟨z0, z1, z2, z3, _⟩ := hE.get4
        have hE2 : Holds wb ((t, .cells #[.int .i64 0, .int .i64 0, .int .i64 0, .int .u8 0] 47) :: (H' ++ ([] ++ ([(g12, .cells #[.int .i64 ma, .int .i64 mk, .int .i64 mb, .int .u8 (mf.toNat : Int)] 47)] ++ Fr)))) := hE.sub (by (repeat' (first | refine sub_append ?_ ?_ | refine sub_cons ?_ ?_ | exact sub_nil)); all_goals first | (intro p hp; simp only [List.mem_append, List.mem_cons, hp, true_or, or_true]) | simp only [List.mem_append, List.mem_cons, true_or, or_true]) (fun b => by simp only [keyc_append, keyc_cons, keyc_nil]; omega)
        obtain ⟨v0, v1, v2, v3, g0, g1, g2, g3⟩ := hE2.get4
        clear hD hG hE
        go_wp2_with fail
        have hS := hE2.set4 (.int .i64 ma) (.int .i64 mk) (.int .i64 mb) (.int .u8 (mf.toNat : Int))
        have hGS := hGE.set4 t (.int .i64 ma) (.int .i64 mk) (.int .i64 mb) (.int .u8 (mf.toNat : Int))
        generalize (((wb.setCell ⟨t, 0, none⟩ (.int .i64 ma)).setCell ⟨t, 1, none⟩ (.int .i64 mk)).setCell ⟨t, 2, none⟩ (.int .i64 mb)).setCell ⟨t, 3, none⟩ (.int .u8 (mf.toNat : Int)) = wf at *
        obtain ⟨u0, u1, u2, u3, _⟩ := hS.get4
        refine bodyPost_ret (v := .tuple #[.agg #[.int .i64 ma, .int .i64 mk, .int .i64 mb, .int .u8 (mf.toNat : Int)], .nilIface]) ?_ rfl ⟨.nilIface, H', [], _, by rw [← HMI.out]; rfl, IsErr.none, HC.out, hS.tail, hGS⟩
        unfold results
        rw [hres]
        go_simp

/-- ordered: a good operation goes on; another one is misuse -/
def CM.ord (c : CM) (m : Mi) (good : Bool) : CM × Int := if good = true then (c, 0) else if m.kind = 2 then ({ c with misuse := c.misuse + 1, on := false }, 4) else ({ c with misuse := c.misuse + 1 }, 6)
set_option maxRecDepth 20000 in
set_option maxHeartbeats 1000000 in
theorem nordered_any (ma mk mb : Int) (mf : UInt8) (good : Bool) (h : ChipAt b g cap mv c H) (hH : Holds w (H ++ Fr)) (hops : c.ops ≤ 1000000000000) (hmu : good = false → c.misuse + 1 ≤ c.ops) :
    Calls Try.prog 32 #[.pointer (some ⟨b, 0, none⟩), .agg #[.int .i64 ma, .int .i64 mk, .int .i64 mb, .int .u8 (mf.toNat : Int)], .bool good] w (fun e w' => ∃ G, RetCh b g cap mv (c.ord ⟨ma, mk, mb, mf⟩ good).1 (c.ord ⟨ma, mk, mb, mf⟩ good).2 w (G ++ Fr) e w') := by
  have HI := Lib.hid h
  have hHA := hH.alloc (.cells #[.int .i64 ma, .int .i64 mk, .int .i64 mb, .int .u8 (mf.toNat : Int)] 47)
  have hGA := (Grew.refl w).alloc (.cells #[.int .i64 ma, .int .i64 mk, .int .i64 mb, .int .u8 (mf.toNat : Int)] 47)
  have hHB : Holds (w.alloc (.cells #[.int .i64 ma, .int .i64 mk, .int .i64 mb, .int .u8 (mf.toNat : Int)] 47)) (H ++ ([(w.heap.size, .cells #[.int .i64 ma, .int .i64 mk, .int .i64 mb, .int .u8 (mf.toNat : Int)] 47)] ++ Fr)) := hHA.sub (by (repeat' (first | refine sub_append ?_ ?_ | refine sub_cons ?_ ?_ | exact sub_nil)); all_goals first | (intro p hp; simp only [List.mem_append, List.mem_cons, hp, true_or, or_true]) | simp only [List.mem_append, List.mem_cons, true_or, or_true]) (fun b => by simp only [keyc_append, keyc_cons, keyc_nil]; omega)
  have hm0 := h.cok.2.2.2.2.2.2.2.2.2.1
  obtain ⟨_, _, _, _, _, _, _, c7, _, _, _, f7, _⟩ := h.heads hHB
  obtain ⟨z0, z1, z2, z3, _⟩ := hHA.get4
  cases good
  · have hmu := hmu rfl
    obtain ⟨H', h', hH'⟩ := h.setMisuse hHB (c.misuse + 1) (by omega) hmu
    have HC := Lib.hid h'
    have HH := Lib.hid hH'
    clear h h' hH'
    by_cases hk : mk = 2
    · have e1 : (mk == 2) = true := by simp [hk]
      have hr : c.ord ⟨ma, mk, mb, mf⟩ false = ({ c with misuse := c.misuse + 1, on := false }, 4) := by unfold CM.ord; rw [if_neg (by simp), if_pos hk]
      rw [hr]
      clear hk hr
      go_enter Try.func32, Try.ntmps32
      go_wp2_with fail
      refine (ndark_any HC.out HH.out).mono ?_
      rintro e w1 ⟨ve, H1, He, rfl, he, hc1, hH1, hg1⟩
      have HE := Lib.hid he
      have HC1 := Lib.hid hc1
      clear he hc1
      go_wp2_with fail
      go_ret
      exact ⟨_, ve, H1, He, rfl, HE.out, HC1.out, hH1, (hGA.setCell _ _).trans hg1⟩
    · have e1 : (mk == 2) = false := by simpa using hk
      have hr : c.ord ⟨ma, mk, mb, mf⟩ false = ({ c with misuse := c.misuse + 1 }, 6) := by unfold CM.ord; rw [if_neg (by simp), if_neg hk]
      rw [hr]
      clear hk hr
      go_enter Try.func32, Try.ntmps32
      go_wp2_with fail
      refine (nwrong_any 6 _ _ (by omega) HH.out).mono ?_
      rintro e w1 ⟨ve, He, rfl, he, hH1, hg1⟩
      have HE := Lib.hid he
      clear he
      go_wp2_with fail
      go_ret
      exact ⟨_, ve, H', He, rfl, HE.out, HC.out, hH1.swap, (hGA.setCell _ _).trans hg1⟩
  · have hr : c.ord ⟨ma, mk, mb, mf⟩ true = (c, 0) := rfl
    rw [hr]
    clear h hmu hr
    go_enter Try.func32, Try.ntmps32
    go_wp2_with fail
    go_ret
    exact ⟨[(w.heap.size, .cells #[.int .i64 ma, .int .i64 mk, .int .i64 mb, .int .u8 (mf.toNat : Int)] 47)], .nilIface, H, [], rfl, IsErr.none, HI.out, hHB, hGA⟩

set_option maxRecDepth 20000 in
theorem non_any (h : ChipAt b g cap mv c H) (hH : Holds w (H ++ Fr)) : Calls Try.prog 18 #[.pointer (some ⟨b, 0, none⟩)] w fun e w' => e = .returned (.bool c.on) ∧ w = w' := by
  have a := h.heads hH
  obtain ⟨c0, c1, c2, c3, c4, c5, c6, c7, c8, _⟩ := a
  clear h
  go_enter Try.func18, Try.ntmps18
  go_wp2_with fail
  go_ret
  exact ⟨rfl, rfl⟩

set_option maxRecDepth 20000 in
theorem nops_any (h : ChipAt b g cap mv c H) (hH : Holds w (H ++ Fr)) : Calls Try.prog 19 #[.pointer (some ⟨b, 0, none⟩)] w fun e w' => e = .returned (.int .i64 c.ops) ∧ w = w' := by
  have a := h.heads hH
  obtain ⟨c0, c1, c2, c3, c4, c5, c6, c7, c8, _⟩ := a
  clear h
  go_enter Try.func19, Try.ntmps19
  go_wp2_with fail
  go_ret
  exact ⟨rfl, rfl⟩

set_option maxRecDepth 20000 in
theorem nmisuse_any (h : ChipAt b g cap mv c H) (hH : Holds w (H ++ Fr)) : Calls Try.prog 20 #[.pointer (some ⟨b, 0, none⟩)] w fun e w' => e = .returned (.int .i64 c.misuse) ∧ w = w' := by
  have a := h.heads hH
  obtain ⟨c0, c1, c2, c3, c4, c5, c6, c7, c8, _⟩ := a
  clear h
  go_enter Try.func20, Try.ntmps20
  go_wp2_with fail
  go_ret
  exact ⟨rfl, rfl⟩

set_option maxRecDepth 20000 in
theorem nprograms_any (h : ChipAt b g cap mv c H) (hH : Holds w (H ++ Fr)) : Calls Try.prog 21 #[.pointer (some ⟨b, 0, none⟩)] w fun e w' => e = .returned (.int .i64 c.programs) ∧ w = w' := by
  have a := h.heads hH
  obtain ⟨c0, c1, c2, c3, c4, c5, c6, c7, c8, _⟩ := a
  clear h
  go_enter Try.func21, Try.ntmps21
  go_wp2_with fail
  go_ret
  exact ⟨rfl, rfl⟩

/-- a block's number, or nothing -/
def CM.blk (c : CM) (k : Int) : Option CB := if 0 ≤ k ∧ k < (c.blocks.length : Int) then c.blocks[k.toNat]? else none
theorem CM.blk_some {c : CM} {k : Int} {x : CB} (h : c.blk k = some x) : ∃ i : Nat, k = (i : Int) ∧ i < c.blocks.length ∧ c.blocks[i]? = some x ∧ c.there k = true := by
  unfold CM.blk at h
  split at h
  · rename_i hk
    obtain ⟨i, rfl⟩ := Int.eq_ofNat_of_zero_le hk.1
    exact ⟨i, rfl, by omega, by simpa using h, by unfold CM.there; exact decide_eq_true hk⟩
  · cases h
theorem CM.blk_none {c : CM} {k : Int} (h : c.blk k = none) : c.there k = false := by
  unfold CM.there
  refine decide_eq_false fun hk => ?_
  unfold CM.blk at h
  rw [if_pos hk] at h
  have : k.toNat < c.blocks.length := by omega
  simp [this] at h
theorem CM.blk_nat {c : CM} {k : Nat} {x : CB} (h : c.blocks[k]? = some x) : c.blk (k : Int) = some x := by
  have := (List.getElem?_eq_some_iff.1 h).1
  unfold CM.blk
  rw [if_pos ⟨by omega, by omega⟩]
  simpa using h
def CM.nextOf (c : CM) (k : Int) : Int := match c.blk k with | some x => x.next | none => 0
def CM.wearOf (c : CM) (k : Int) : Int := match c.blk k with | some x => x.wear | none => 0
def CM.markOf (c : CM) (k : Int) : Bool := match c.blk k with | some x => x.mark | none => false

set_option maxRecDepth 20000 in
theorem nnext_any (k : Int) (h : ChipAt b g cap mv c H) (hH : Holds w (H ++ Fr)) : Calls Try.prog 13 #[.pointer (some ⟨b, 0, none⟩), .int .i64 k] w fun e w' => e = .returned (.int .i64 (c.nextOf k)) ∧ w = w' := by
  have HT := Lib.hid (nthere_any (w := w) k h hH)
  cases hb : c.blk k with
  | none =>
    rw [show c.nextOf k = 0 by unfold CM.nextOf; rw [hb]]
    rw [CM.blk_none hb] at HT
    clear hb h
    go_enter Try.func13, Try.ntmps13
    go_wp2_with fail
    refine HT.out.mono ?_
    rintro e wx ⟨rfl, rfl⟩
    go_wp2_with fail
    go_ret
    exact ⟨rfl, rfl⟩
  | some x =>
    rw [show c.nextOf k = x.next by unfold CM.nextOf; rw [hb]]
    obtain ⟨i, rfl, hi, hx, ht⟩ := CM.blk_some hb
    rw [ht] at HT
    obtain ⟨pv, hB⟩ := h.open_ hx
    obtain ⟨_, _, _, c3, _⟩ := h.heads hH
    obtain ⟨d0, d1, d2, d3, d4, _⟩ := hB.cells w Fr hH
    have hcap := h.caps
    unfold maxLen at hcap
    have h32 := h.cok.2.2.2.2.2.1
    clear hb h hB hx ht
    generalize c.blocks.length = n at *
    go_enter Try.func13, Try.ntmps13
    go_wp2_with fail
    refine HT.out.mono ?_
    rintro e wx ⟨rfl, rfl⟩
    go_wp2_with fail
    go_ret
    exact ⟨rfl, rfl⟩

set_option maxRecDepth 20000 in
theorem nwear_any (k : Int) (h : ChipAt b g cap mv c H) (hH : Holds w (H ++ Fr)) : Calls Try.prog 17 #[.pointer (some ⟨b, 0, none⟩), .int .i64 k] w fun e w' => e = .returned (.int .i64 (c.wearOf k)) ∧ w = w' := by
  have HT := Lib.hid (nthere_any (w := w) k h hH)
  cases hb : c.blk k with
  | none =>
    rw [show c.wearOf k = 0 by unfold CM.wearOf; rw [hb]]
    rw [CM.blk_none hb] at HT
    clear hb h
    go_enter Try.func17, Try.ntmps17
    go_wp2_with fail
    refine HT.out.mono ?_
    rintro e wx ⟨rfl, rfl⟩
    go_wp2_with fail
    go_ret
    exact ⟨rfl, rfl⟩
  | some x =>
    rw [show c.wearOf k = x.wear by unfold CM.wearOf; rw [hb]]
    obtain ⟨i, rfl, hi, hx, ht⟩ := CM.blk_some hb
    rw [ht] at HT
    obtain ⟨pv, hB⟩ := h.open_ hx
    obtain ⟨_, _, _, c3, _⟩ := h.heads hH
    obtain ⟨d0, d1, d2, d3, d4, _⟩ := hB.cells w Fr hH
    have hcap := h.caps
    unfold maxLen at hcap
    have h32 := h.cok.2.2.2.2.2.1
    clear hb h hB hx ht
    generalize c.blocks.length = n at *
    go_enter Try.func17, Try.ntmps17
    go_wp2_with fail
    refine HT.out.mono ?_
    rintro e wx ⟨rfl, rfl⟩
    go_wp2_with fail
    go_ret
    exact ⟨rfl, rfl⟩

set_option maxRecDepth 20000 in
theorem nmarked_any (k : Int) (h : ChipAt b g cap mv c H) (hH : Holds w (H ++ Fr)) : Calls Try.prog 24 #[.pointer (some ⟨b, 0, none⟩), .int .i64 k] w fun e w' => e = .returned (.bool (c.markOf k)) ∧ w = w' := by
  have HT := Lib.hid (nthere_any (w := w) k h hH)
  cases hb : c.blk k with
  | none =>
    rw [show c.markOf k = false by unfold CM.markOf; rw [hb]]
    rw [CM.blk_none hb] at HT
    clear hb h
    go_enter Try.func24, Try.ntmps24
    go_wp2_with fail
    refine HT.out.mono ?_
    rintro e wx ⟨rfl, rfl⟩
    go_wp2_with fail
    go_ret
    exact ⟨rfl, rfl⟩
  | some x =>
    rw [show c.markOf k = x.mark by unfold CM.markOf; rw [hb]]
    obtain ⟨i, rfl, hi, hx, ht⟩ := CM.blk_some hb
    rw [ht] at HT
    obtain ⟨pv, hB⟩ := h.open_ hx
    obtain ⟨_, _, _, c3, _⟩ := h.heads hH
    obtain ⟨d0, d1, d2, d3, d4, _⟩ := hB.cells w Fr hH
    have hcap := h.caps
    unfold maxLen at hcap
    have h32 := h.cok.2.2.2.2.2.1
    clear hb h hB hx ht
    generalize c.blocks.length = n at *
    go_enter Try.func24, Try.ntmps24
    go_wp2_with fail
    refine HT.out.mono ?_
    rintro e wx ⟨rfl, rfl⟩
    go_wp2_with fail
    go_ret
    exact ⟨rfl, rfl⟩

set_option maxRecDepth 20000 in
theorem nboot_any (h : ChipAt b g cap mv c H) (hH : Holds w (H ++ Fr)) : Calls Try.prog 23 #[.pointer (some ⟨b, 0, none⟩)] w (RetCh b g cap mv { c with on := true } (if c.on = true then 9 else 0) w Fr) := by
  have HI := Lib.hid h
  obtain ⟨_, _, _, _, _, c5, _, _, _, f5, _⟩ := h.heads hH
  rcases (Bool.eq_false_or_eq_true c.on).symm with hon | hon
  · rw [if_neg (by rw [hon]; simp)]
    rw [hon] at c5
    obtain ⟨H', h', hH'⟩ := h.setOn hH true
    have HC := Lib.hid h'
    have HH := Lib.hid hH'
    clear h h' hH' hon
    go_enter Try.func23, Try.ntmps23
    go_wp2_with fail
    go_ret
    exact ⟨.nilIface, H', [], rfl, IsErr.none, HC.out, HH.out, (Grew.refl w).setCell _ _⟩
  · rw [if_pos hon]
    rw [hon] at c5
    have HE0 := Lib.hid (show ({ c with on := true } : CM) = c by rw [← hon])
    clear h hon
    go_enter Try.func23, Try.ntmps23
    go_wp2_with fail
    refine (nwrong_any 9 _ _ (by omega) hH).mono ?_
    rintro e w1 ⟨ve, He, rfl, he, hH1, hg1⟩
    have HE := Lib.hid he
    clear he
    go_wp2_with fail
    go_ret
    exact ⟨ve, H, He, rfl, HE.out, by rw [HE0.out]; exact HI.out, hH1.swap, hg1⟩
end
end Go.Proofs.Ytndalabilfdgkaa
