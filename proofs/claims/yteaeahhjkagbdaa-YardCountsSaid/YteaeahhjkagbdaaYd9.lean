/-
  Package yard: New.
-/
import Derived.Test.YteaeahhjkagbdaaYd8
namespace Go.Proofs.Yteaeahhjkagbdaa
open Go.RowKit
set_option linter.unusedSimpArgs false
set_option linter.unusedVariables false

theorem ReadsAt.many' {w : World} {e : TypeId} {n size g : Nat} {cs : Array Value} (hg : g = w.heap.size) (hs : cs.size = n * size) (hn : n ≤ maxLen) : ReadsAt (w.alloc (.cells cs e)) size (.slice (some ⟨g, 0, none⟩) n n) n cs.toList := by
  subst hg; exact ReadsAt.many hs hn
def Ynew (n m : Nat) : List YB := List.replicate n ⟨1, 0, List.replicate m (false, false)⟩
def YNewTo (b n m : Nat) (w : World) (Fr : HL) (iv : Value) (wr : World) : Prop :=
  ∃ (k : Nat) (A : Option Addr) (c : Nat) (Hm : HL), k ≤ n ∧ iv = .int .i64 k ∧ Rows2 ybR 131 3 (.slice A k c) (Ynew k m) Hm ∧ Holds wr ((b, .cells #[.slice A k c] 128) :: (Hm ++ Fr)) ∧ Grew w wr

set_option maxRecDepth 20000 in
set_option maxHeartbeats 2000000 in
theorem ynew_good (n m : Nat) (Fr : HL) (w : World) (hH : Holds w Fr) (hn1 : 1 ≤ n) (hn2 : n ≤ 32) (hm1 : 1 ≤ m) (hm2 : m ≤ 8) :
    Calls Try.prog 49 #[.int .i64 (n : Int), .int .i64 (m : Int)] w (RetNew (fun v H => IsYard v (Ynew n m) H) w Fr) := by
  have hmk := fun w => run_makeN (P := Try.prog) tYpages m m (Nat.le_refl _) (by omega) (by simp [maxLen]; omega) w
  obtain ⟨ps, hps⟩ : ∃ ps, ps = madeCells (Value.agg #[.bool false, .bool false]).cells (m * 2) := ⟨_, rfl⟩
  rw [← hps] at hmk
  have hpr : ∀ g : Nat, IsRow 140 2 (.slice (some ⟨g, 0, none⟩) m m) m (((List.replicate m (false, false)).map pageC).flatten) [(g, .cells ps 140)] := by
    intro g
    have h := IsRow.made (size := 2) (e := 140) g m ps (by rw [hps, made_size]) (by simp [maxLen]; omega)
    have e : ps.toList = ((List.replicate m (false, false)).map pageC).flatten := by
      rw [hps]
      apply List.ext_getElem
      · have := flat_len (size := 2) ((List.replicate m (false, false)).map pageC) (by intro z hz; obtain ⟨a, _, rfl⟩ := List.mem_map.1 hz; rfl)
        rw [this]; simp [madeCells]
      · intro i h1 h2
        have hall : ∀ z ∈ ((List.replicate m (false, false)).map pageC).flatten, z = Value.bool false := by
          intro z hz
          obtain ⟨c, hc, hzc⟩ := List.mem_flatten.1 hz
          obtain ⟨q, hq, rfl⟩ := List.mem_map.1 hc
          have := List.eq_of_mem_replicate hq
          subst this
          simpa [pageC] using hzc
        rw [hall _ (List.getElem_mem h2)]
        have h01 : i % 2 = 0 ∨ i % 2 = 1 := by omega
        rcases h01 with h | h <;> simp [madeCells, Value.cells, h]
    rw [e] at h
    exact h
  have HPR := Lib.hid hpr; clear hpr hps
  go_enter Try.func49, Try.ntmps49
  go_wp2_with fail
  go_loopw [23] (fun iv wr => YNewTo w.heap.size n m w Fr iv wr) (fun iv _ => n - (intOf iv).toNat)
  case atStart => exact ⟨0, none, 0, [], by omega, rfl, Rows2.nil _ _ _, hH.alloc _, (Grew.refl w).alloc _⟩
  case round =>
    obtain ⟨k, A, c, Hm, hk, rfl, hr, hHr, hgr⟩ := hrel
    have hkl : (Ynew k m).length = k := by simp [Ynew]
    obtain ⟨cells, H0, H1, rfl, hrow, _, hadd⟩ := hr.parts3
    rw [hkl] at hrow hadd
    have HROW := Lib.hid hrow
    have HADD := Lib.hid hadd
    have HR := Lib.hid hr
    clear hrow hadd hr
    by_cases hlt : k < n
    · have HS := Lib.hid (fun (wx : World) (HH : HL) (hx : Holds wx HH) (hm : (w.heap.size, Obj.cells #[.slice A k c] 128) ∈ HH) => And.intro (hx.cell hm 0) (hx.frozen hm 0))
      go_upto_region 6 with fail
      refine Z_begin (fun wx => wx.cell? ⟨w.heap.size, 0, none⟩ = some (.slice A k c) ∧ wx.frozen? ⟨w.heap.size, 0, none⟩ = false) 12 (by kernel_rfl) (fun w1 hd => HS.out _ _ (hHr.dr hd) (by simp)) (fun w1 hd hs => ?_)
      have hH1 := hHr.dr hd; have hG1 := hgr.trans (Grew.dr hd); clear hd hHr hgr
      refine Z_takeD 0 (some 25) (v := ?_) rfl rfl (by kernel_rfl) (fun _ _ _ h => h) (by rfl) hs ?_ ?_
      rotate_left
      · intro wx hx; obtain ⟨x1, x2⟩ := hx; go_simp; try with_reducible rfl
      simp only [Act.put, List.setIfInBounds_toArray, List.set_cons_succ, List.set_cons_zero]
      refine Z_takeD 1 (some 26) (v := ?_) rfl rfl (by kernel_rfl) (fun _ _ _ h => h) (by rfl) hs ?_ ?_
      rotate_left
      · intro wx hx; obtain ⟨x1, x2⟩ := hx; go_simp; try with_reducible rfl
      simp only [Act.put, List.setIfInBounds_toArray, List.set_cons_succ, List.set_cons_zero]
      refine Z_takeD 2 (some 27) (v := ?_) rfl rfl (by kernel_rfl) (fun _ _ _ h => h) (by rfl) hs ?_ ?_
      rotate_left
      · intro wx hx; obtain ⟨x1, x2⟩ := hx; go_simp; try with_reducible rfl
      simp only [Act.put, List.setIfInBounds_toArray, List.set_cons_succ, List.set_cons_zero]
      refine Z_takeD 3 (some 28) (v := ?_) rfl rfl (by kernel_rfl) (fun _ _ _ h => h) (by rfl) hs ?_ ?_
      rotate_left
      · intro wx hx; obtain ⟨x1, x2⟩ := hx; go_simp; try with_reducible rfl
      simp only [Act.put, List.setIfInBounds_toArray, List.set_cons_succ, List.set_cons_zero]
      refine Z_takeD 4 (some 29) (v := ?_) rfl rfl (by kernel_rfl) (fun _ _ _ h => h) (by rfl) hs ?_ ?_
      rotate_left
      · intro wx hx; obtain ⟨x1, x2⟩ := hx; go_simp; try with_reducible rfl
      simp only [Act.put, List.setIfInBounds_toArray, List.set_cons_succ, List.set_cons_zero]
      refine Z_takeD 5 (some 30) (v := ?_) rfl rfl (by kernel_rfl) (fun _ _ _ h => h) (by rfl) hs ?_ ?_
      rotate_left
      · intro wx hx; obtain ⟨x1, x2⟩ := hx; go_simp; try with_reducible rfl
      simp only [Act.put, List.setIfInBounds_toArray, List.set_cons_succ, List.set_cons_zero]
      refine Z_mid 6 rfl (by kernel_rfl) (fun K hK => ?_)
      have ⟨x1, x2⟩ := hs
      go_simp   -- makeSlice w
      clear x1 x2
      refine hK _ _ (HS.out _ _ (hH1.alloc _) (by simp)) (fun hs2 => ?_); clear hK K hs; have hs := hs2; clear hs2
      refine Z_takeD 7 (some 32) (v := ?_) rfl rfl (by kernel_rfl) (fun _ _ _ h => h) (by rfl) hs ?_ ?_
      rotate_left
      · intro wx hx; obtain ⟨x1, x2⟩ := hx; go_simp; try with_reducible rfl
      simp only [Act.put, List.setIfInBounds_toArray, List.set_cons_succ, List.set_cons_zero]
      refine Z_mid 8 rfl (by kernel_rfl) (fun K hK => ?_)
      have ⟨x1, x2⟩ := hs
      go_simp   -- buildSlice w
      clear x1 x2
      refine hK _ _ (HS.out _ _ ((hH1.alloc _).alloc _) (by simp)) (fun hs2 => ?_); clear hK K hs; have hs := hs2; clear hs2
      refine Z_mid 9 rfl (by kernel_rfl) (fun K hK => ?_)
      have ⟨x1, x2⟩ := hs
      refine step_append_T tYblocks (by rfl) _ _ (by rfl) (by rfl) (by rfl) HROW.out (Fr := (w1.heap.size, .cells ps 140) :: ((w.heap.size, .cells #[.slice A k c] 128) :: (H1 ++ Fr))) (((hH1.alloc (.cells ps 140)).alloc' _).sub (by (repeat' (first | refine sub_append ?_ ?_ | refine sub_cons ?_ ?_ | exact sub_nil)); all_goals first | (intro p hp; simp only [List.mem_append, List.mem_cons, hp, true_or, or_true]) | simp only [List.mem_append, List.mem_cons, true_or, or_true]) (fun b => by simp only [keyc_append, keyc_cons, keyc_nil]; omega)) (ReadsAt.many' (n := 1) (size := 3) (by simp) (by rfl) (by simp [maxLen])) (by simp [Value.oneCell']) (by simp [maxLen]; omega) (by omega) ?_; intro A' c3 w' H' hrow2 hH6 hg4   -- call w
      clear x1 x2
      refine hK _ _ (HS.out _ _ hH6 (by simp)) (fun hs2 => ?_); clear hK K hs; have hs := hs2; clear hs2
      refine Z_takeD 10 (some 35) (v := ?_) rfl rfl (by kernel_rfl) (fun _ _ _ h => h) (by rfl) hs ?_ ?_
      rotate_left
      · intro wx hx; obtain ⟨x1, x2⟩ := hx; go_simp; try with_reducible rfl
      simp only [Act.put, List.setIfInBounds_toArray, List.set_cons_succ, List.set_cons_zero]
      refine Z_takeD 11 (some 36) (v := ?_) rfl rfl (by kernel_rfl) (fun _ _ _ h => h) (by rfl) hs ?_ ?_
      rotate_left
      · intro wx hx; obtain ⟨x1, x2⟩ := hx; go_simp; try with_reducible rfl
      simp only [Act.put, List.setIfInBounds_toArray, List.set_cons_succ, List.set_cons_zero]
      refine Z_last 12 rfl (by kernel_rfl) rfl (fun K hK => ?_)
      have ⟨x1, x2⟩ := hs
      go_simp   -- store w
      clear x1 x2
      refine hK _ _ ?_; clear hK K hs
      refine Z_done (by kernel_rfl) ?_ _
      have hin : ybR [.int .i64 1, .int .i64 0, .slice (some ⟨w1.heap.size, 0, none⟩) m m] ⟨1, 0, List.replicate m (false, false)⟩ [(w1.heap.size, .cells ps 140)] := ⟨w1.heap.size, m, by simp, by simpa using HPR.out w1.heap.size⟩
      have hr9 := HADD.out (.slice A' (k + 1) c3) H' _ _ _ rfl hin hrow2
      have e9 : Ynew k m ++ [⟨1, 0, List.replicate m (false, false)⟩] = Ynew (k + 1) m := by unfold Ynew; rw [List.replicate_succ']
      rw [e9] at hr9
      have hset : Holds (w'.setCell ⟨w.heap.size, 0, none⟩ (.slice A' (k + 1) c3)) ((w.heap.size, .cells #[.slice A' (k + 1) c3] 128) :: ((H' ++ (H1 ++ [(w1.heap.size, .cells ps 140)])) ++ Fr)) :=
        Holds.set (cs := #[.slice A k c]) (hH6.sub (by (repeat' (first | refine sub_append ?_ ?_ | refine sub_cons ?_ ?_ | exact sub_nil)); all_goals first | (intro p hp; simp only [List.mem_append, List.mem_cons, hp, true_or, or_true]) | simp only [List.mem_append, List.mem_cons, true_or, or_true]) (fun b => by simp only [keyc_append, keyc_cons, keyc_nil]; omega)) 0 _
      have hfin : YNewTo w.heap.size n m w Fr (.int .i64 ((k : Int) + 1)) (w'.setCell ⟨w.heap.size, 0, none⟩ (.slice A' (k + 1) c3)) :=
        ⟨k + 1, A', c3, _, by omega, by go_num, hr9, hset, (((hG1.alloc _).alloc _).trans hg4).setCell _ _⟩
      have HFIN := Lib.hid hfin
      clear hfin hset hr9 hin hrow2 hH6 hH1 hG1 hg4
      go_wp2_with fail
      exact ⟨HFIN.out, by simp [intOf]; omega⟩
    · obtain rfl : k = n := by omega
      go_wp2_with fail
      go_ret
      refine ⟨_, _, rfl, ⟨w.heap.size, _, _, rfl, ?_, by simp [Ynew]; omega, HR.out, rfl⟩, by simpa using hHr, hgr⟩
      intro x hx
      have := List.eq_of_mem_replicate (show x ∈ List.replicate k _ from hx)
      rw [this]
      exact ⟨by show (0:Int) ≤ 0; omega, by show (0:Int) ≤ 8; omega, by simp; omega, by show (0:Int) ≤ 1 ∧ (1:Int) ≤ 100; omega⟩

theorem ynew_bad (n m : Int) (w : World) (h : ¬ (1 ≤ n ∧ n ≤ 32 ∧ 1 ≤ m ∧ m ≤ 8)) :
    Calls Try.prog 49 #[.int .i64 n, .int .i64 m] w fun e w' => e = .returned (.pointer none) ∧ w = w' := by
  have hc : (decide (n < 1) || decide (32 < n) || decide (m < 1) || decide (8 < m)) = true := by
    simp only [Bool.or_eq_true, decide_eq_true_eq]; omega
  by_cases h1 : n < 1
  · go_enter Try.func49, Try.ntmps49
    go_wp2
    go_ret
    exact ⟨rfl, rfl⟩
  · by_cases h2 : 32 < n
    · go_enter Try.func49, Try.ntmps49
      go_wp2
      go_ret
      exact ⟨rfl, rfl⟩
    · by_cases h3 : m < 1
      · go_enter Try.func49, Try.ntmps49
        go_wp2
        go_ret
        exact ⟨rfl, rfl⟩
      · have h4 : 8 < m := by omega
        go_enter Try.func49, Try.ntmps49
        go_wp2
        go_ret
        exact ⟨rfl, rfl⟩
end Go.Proofs.Yteaeahhjkagbdaa
