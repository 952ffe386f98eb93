/-
  copy into a row of one's own; bytes.Repeat of one byte.
-/
import Derived.Test.YtndalabilfdgkaaErr
import Derived.Test.YtndalabilfdgkaaRows3
import Derived.Test.YtndalabilfdgkaaOrd2
import Derived.Lib.SlBuf
import Derived.Lib.MakeNoZero
import Derived.Laws.Externs
import Derived.Deep.DeepCutAuto
namespace Go.Proofs.Ytndalabilfdgkaa
open Go.RowKit
set_option linter.unusedSimpArgs false
set_option linter.unusedVariables false

section
variable {P : Program} {w : World}
/-- copy into a row: the first cells of what is read -/
theorem run_copy_fz (dT sT ty elem : TypeId) (hu : P.underlying dT = some (.slice elem)) (hsz : (P.info? elem).map (·.size) = some 1) {g off dLen dCap : Nat} {cur : Array Value} {t : TypeId} {fz : Nat × Nat}
    (hg : w.heap[g]? = some (.cells cur t fz)) (hf : okfz fz cur.size) {v : Value} {m : Nat} {cs : List Value} (hsrc : ReadsAt w 1 v m cs) (hfit : off + min m dLen ≤ cur.size) (h1 : ∀ x ∈ cs, x.oneCell' = true) :
    (Builtin.copy_ #[dT, sT] ty #[.slice (some ⟨g, off, none⟩) dLen dCap, v]).run P w =
      .ok (goInt ((min m dLen : Nat) : Int)) (w.setRow g (cur.toList.take off ++ cs.take (min m dLen) ++ cur.toList.drop (off + min m dLen)).toArray) := by
  obtain ⟨hl, A, c, rfl, hmc, hcm, hsr⟩ := hsrc
  obtain ⟨i, hi, hi1⟩ : ∃ i, P.info? elem = some i ∧ i.size = 1 := by
    cases h : P.info? elem with
    | none => rw [h] at hsz; cases hsz
    | some i => rw [h] at hsz; exact ⟨i, rfl, by simpa using hsz⟩
  have hln : (cs.take (min m dLen)).length = min m dLen := by rw [List.length_take, hl]; omega
  have hst := storeCells_fz (P := P) g off t fz (cs.take (min m dLen)) 0 cur w hg hf (by rw [hln]; omega) (fun x hx => h1 x (List.mem_of_mem_take hx))
  rw [hln, Nat.add_zero] at hst
  by_cases h0 : min m dLen = 0
  · rw [h0] at hst ⊢
    have hz : (Nat.min m dLen) = 0 := h0
    simp only [List.take_zero] at hst
    cases A with
    | none => simp [Builtin.copy_, run_underlying hu, sizeOf, typeInfo, hi, hi1, Builtin.lenOf, hz, Builtin.firstCells, hst] <;> (try (congr 1; omega))
    | some a => simp [Builtin.copy_, run_underlying hu, sizeOf, typeInfo, hi, hi1, Builtin.lenOf, hz, Builtin.firstCells, loadCells, loadCellsFrom, hst] <;> (try (congr 1; omega))
  · obtain ⟨b, o, rfl, hcell⟩ := hsr (by omega)
    have hfc := run_firstCells_some (P := P) (w := w) 1 (min m dLen) ⟨b, o, none⟩ m c (cs.take (min m dLen)) (by rw [hln]; omega) (fun j u hu => by
      rw [addr_add_lit]
      rw [List.getElem?_take] at hu
      split at hu
      · exact hcell j u hu
      · cases hu)
    have hz : (Nat.min m dLen) = min m dLen := rfl
    simp [Builtin.copy_, run_underlying hu, sizeOf, typeInfo, hi, hi1, Builtin.lenOf, hz, hfc, hst] <;> (try (congr 1; omega))
end

theorem wrap_small (z : Int) (h0 : -9223372036854775808 ≤ z) (h1 : z ≤ 9223372036854775807) : IntKind.i64.wrap z = z := by
  have e1 : (2 ^ IntKind.i64.bits : Int) = 18446744073709551616 := by decide
  have e2 : (2 ^ (IntKind.i64.bits - 1) : Int) = 9223372036854775808 := by decide
  have e3 : IntKind.i64.signed = true := rfl
  unfold IntKind.wrap
  simp only [e1, e2, e3, Bool.true_and, decide_eq_true_eq]
  split <;> omega
/-- copy as one step of a region that draws its order -/
theorem step_copy {P : Program} {ops : Array Oper} {o : Oper} {a : Act} {w : World} {K : Act → World → Prop} {Q : Exit → Act → World → Prop} {E : Prop} (hgd : o.guard = none) (d s : Operand) (t t' : TypeId) (ds : Option Nat) (hds : o.dst = ds)
    (ho : o.op = .call { callee := .builtin .copy, args := #[d, s], argTypes := #[t, t'] }) (v u : Value) (hd : a.eval d = v) (hs : a.eval s = u) {v' : Value} {w' : World}
    (hr : (Builtin.copy_ #[t, t'] o.type #[v, u]).run P w = .ok v' w') (h : K (a.put ds v') w') :
    if Region.wanted o (yielded ops a.tmps) = true then Oper.wp P o a w K Q else E := by
  have hw : Region.wanted o (yielded ops a.tmps) = true := by simp [Region.wanted, hgd]
  rw [if_pos hw]
  subst hds
  exact Lib.wp_copy_run w d s t t' ho v u hd hs hr h

set_option maxRecDepth 20000 in
theorem mul64_one (n : Nat) (hn : n ≤ 1000000) (w : World) : Calls Try.prog 45 #[.int .u64 1, .int .u64 (n : Int)] w fun e w' => e = .returned (.tuple #[.int .u64 0, .int .u64 (n : Int)]) ∧ w = w' := by
  have b1 : bits BinOp.and .u64 1 4294967295 = 1 := by decide
  have b2 : bits BinOp.and .u64 (n : Int) 4294967295 = (n : Int) := by
    unfold bits
    simp
    rw [show (4294967295 % 2 ^ IntKind.u64.bits : Nat) = 2 ^ 32 - 1 by decide, Nat.and_two_pow_sub_one_eq_mod]
    rw [show (2 ^ IntKind.u64.bits : Nat) = 18446744073709551616 by decide, show (2 ^ 32 : Nat) = 4294967296 by decide, Nat.mod_eq_of_lt (show n < 18446744073709551616 by omega), Nat.mod_eq_of_lt (show n < 4294967296 by omega)]
    have hw : ∀ z : Int, IntKind.u64.wrap z = z % 18446744073709551616 := fun z => rfl
    rw [hw]; omega
  have d0 : (n : Int) / 4294967296 = 0 := by omega
  go_enter Try.func45, Try.ntmps45
  go_wp2_with fail
  go_ret2
  refine ⟨?_, rfl⟩
  simp
  decide

set_option maxRecDepth 20000 in
theorem mul_one (n : Nat) (hn : n ≤ 1000000) (w : World) : Calls Try.prog 40 #[.int .u64 1, .int .u64 (n : Int)] w fun e w' => e = .returned (.tuple #[.int .u64 0, .int .u64 (n : Int)]) ∧ w = w' := by
  have HM := Lib.hid (mul64_one n hn w)
  go_enter Try.func40, Try.ntmps40
  go_wp2_with fail
  refine HM.out.mono ?_
  rintro e wx ⟨rfl, rfl⟩
  go_wp2_with fail
  go_ret2
  exact ⟨rfl, rfl⟩

/-- so many of one byte stand at the row's head -/
def RepTo (g n : Nat) (x : UInt8) (w : World) (Fr : HL) (iv : Value) (wr : World) : Prop :=
  ∃ (j : Nat) (cur : Array Value), 1 ≤ j ∧ j ≤ n ∧ iv = .int .i64 j ∧ n ≤ cur.size ∧ cur.toList.take j = (List.replicate j x).map cellB ∧ cur.size ≤ maxLen ∧ Holds wr ((g, .cells cur 5) :: Fr) ∧ Grew w wr

set_option maxRecDepth 20000 in
set_option maxHeartbeats 2000000 in
theorem repeat_any (v : Value) (x : UInt8) (n : Nat) (w : World) (Fr : HL) (hb : BytesAt w v [x]) (hH : Holds w Fr) (hn1 : 1 ≤ n) (hn : n ≤ 8192) :
    Calls Try.prog 36 #[v, .int .i64 (n : Int)] w (RetNew (fun v H => IsBytes v (List.replicate n x) H) w Fr) := by
  obtain ⟨A, c, rfl⟩ := hb.val
  simp only [List.length_singleton] at hb ⊢
  have HM := Lib.hid (fun (wx : World) => mul_one n (by omega) wx)
  obtain ⟨cs, hrunM, hle, hlm⟩ := Lib.run_makeNoZero (P := Try.prog) w #[3] 28 5 tBytes.under n (by omega)
  have hcall : (callFunc 41 #[.int .i64 (n : Int)]).run Try.prog w = .ok (.value (.slice (some ⟨w.heap.size, 0, none⟩) n cs.size)) ((w.alloc (.cells cs 5)).drewN 2) := by
    rw [run_callFunc_extern Try.func41 (by kernel_rfl) (by kernel_rfl) (by kernel_rfl) (e := Extern.BytealgMakeNoZero.makeNoZero #[3] #[28]) (by kernel_rfl), hrunM]
    rfl
  clear hrunM
  have hcm : cs.size ≤ maxLen := hlm (by simp [maxLen]; omega)
  unfold maxLen at hcm
  have hH1 := (hH.alloc (.cells cs 5)).drewN 2
  have hG1 := ((Grew.refl w).alloc (.cells cs 5)).drewN 2
  have hB1 : ReadsAt ((w.alloc (.cells cs 5)).drewN 2) 1 (.slice A 1 c) 1 [cellB x] := (ReadsAt.alloc hb _).drewN 2
  have hcopy := run_copy_fz (P := Try.prog) 28 28 3 5 tBytes.under (by kernel_rfl) (g := w.heap.size) (off := 0) (dLen := n) (dCap := n) (hH1.get (List.mem_cons_self)) (okfz_zero _) hB1 (by omega) (by intro y hy; rw [List.mem_singleton.1 hy]; rfl)
  rw [show min 1 n = 1 by omega] at hcopy
  have HH1 := Lib.hid hH1
  have HG1 := Lib.hid hG1
  clear hH1 hG1 hB1 hlm
  go_enter Try.func36, Try.ntmps36
  go_wp2_with fail
  refine (HM.out w).mono ?_
  rintro e wx ⟨rfl, rfl⟩
  go_wp2_with (at_builtin; refine Lib.wpList_copy_run _ rfl _ _ 28 28 rfl _ _ rfl rfl hcopy ?_)
  go_loopw [10, 11] (fun iv _ wr => RepTo w.heap.size n x w Fr iv wr) (fun iv _ _ => n - (intOf iv).toNat)
  case atStart =>
    have htl : cs.toList.tail.length = cs.size - 1 := by simp
    refine ⟨1, _, Nat.le_refl _, hn1, rfl, ?_, ?_, ?_, HH1.out.setRow' _, HG1.out.setRow _ _⟩
    · simp; omega
    · simp
    · simp [maxLen]; omega
  case round =>
    obtain ⟨j, cur, hj1, hjn, rfl, hcs, htk, hcm2, hHr, hgr⟩ := hrel
    unfold maxLen at hcm2
    clear HH1 HG1 hcopy hcall hb
    by_cases hlt : j < n
    · have hlt2 : (j : Int) < (n : Int) := by omega
      have hmin : min (j : Int) (n : Int) = (j : Int) := by omega
      go_upto_region 20 with fail
      have hsrc : ∀ wx : World, Holds wx ((w.heap.size, .cells cur 5) :: Fr) → ReadsAt wx 1 (.slice (some ⟨w.heap.size, 0, none⟩) j n) j ((List.replicate j x).map cellB) := fun wx hx =>
        ReadsAt.of_block (hx.get (List.mem_cons_self)) _ (by simp) hjn (by simp [maxLen]; omega) (fun i u hu => by
          rw [← htk, List.getElem?_take] at hu
          split at hu
          · simpa using hu
          · cases hu)
      obtain ⟨mm, hmm⟩ : ∃ mm, mm = min j (n - j) := ⟨_, rfl⟩
      have hml : mm ≤ j := by omega
      have hmn : j + mm ≤ n := by omega
      have hm1 : 1 ≤ mm := by omega
      obtain ⟨cur2, hc2⟩ : ∃ cur2, cur2 = (cur.toList.take j ++ ((List.replicate j x).map cellB).take mm ++ cur.toList.drop (j + mm)).toArray := ⟨_, rfl⟩
      have hcp : ∀ wx : World, Holds wx ((w.heap.size, .cells cur 5) :: Fr) → (Builtin.copy_ #[28, 28] 3 #[.slice (some ⟨w.heap.size, j, none⟩) (n - j) (n - j), .slice (some ⟨w.heap.size, 0, none⟩) j n]).run Try.prog wx = .ok (.int .i64 (mm : Int)) (wx.setRow w.heap.size cur2) := fun wx hx => by
        have := run_copy_fz (P := Try.prog) 28 28 3 5 tBytes.under (by kernel_rfl) (g := w.heap.size) (off := j) (dLen := n - j) (dCap := n - j) (hx.get (List.mem_cons_self)) (okfz_zero _) (hsrc wx hx) (by omega) (by intro y hy; obtain ⟨z, _, rfl⟩ := List.mem_map.1 hy; rfl)
        rw [← hmm, ← hc2] at this
        exact this
      have hsz2 : cur2.size = cur.size := by rw [hc2]; simp; omega
      have htk2 : cur2.toList.take (j + mm) = (List.replicate (j + mm) x).map cellB := by
        have e1 : (cur.toList.take j ++ ((List.replicate j x).map cellB).take mm).length = j + mm := by simp; omega
        rw [hc2]
        show List.take (j + mm) (cur.toList.take j ++ ((List.replicate j x).map cellB).take mm ++ cur.toList.drop (j + mm)) = _
        rw [List.take_append_of_le_length (by omega), List.take_of_length_le (by omega), htk, ← List.map_take, List.take_replicate, ← List.map_append, List.replicate_append_replicate]
        congr 2
        omega
      have HTK := Lib.hid htk2
      have HCS := Lib.hid (show n ≤ cur2.size by rw [hsz2]; exact hcs)
      have HCM := Lib.hid (show cur2.size ≤ maxLen by rw [hsz2]; simp [maxLen]; omega)
      clear hmm hc2 hsz2 htk2
      have hsl1 : ∀ W : World, (Instr.slice 28 (.slice (some ⟨w.heap.size, 0, none⟩) n n) (some (.int .i64 (j : Int))) none none).run Try.prog W = .ok (.slice (some ⟨w.heap.size, j, none⟩) (n - j) (n - j)) W := fun W => by
        have := Lib.run_slice_tailV (P := Try.prog) W 28 5 tBytes.under (fun w => by obtain ⟨i, hi, _, h1, _⟩ := tBytes.info; simp [sizeOf, typeInfo, hi, h1]) w.heap.size n j (by omega)
        rw [this]; unfold Lib.tailV; rw [if_neg (by omega)]
      refine Z_begin (fun _ => True ∧ True) 10 (by kernel_rfl) (fun w1 hd => ⟨trivial, trivial⟩) (fun w1 hd hs => ?_)
      have hH1 := hHr.dr hd; have hG1 := hgr.trans (Grew.dr hd); clear hd hHr hgr
      refine Z_takeD 0 (some 67) (v := ?_) rfl rfl (by kernel_rfl) (fun _ _ _ h => h) (by rfl) hs ?_ ?_
      rotate_left
      · intro wx hx; obtain ⟨x1, x2⟩ := hx; go_simp; try with_reducible rfl
      simp only [Act.put, List.setIfInBounds_toArray, List.set_cons_succ, List.set_cons_zero]
      refine Z_takeD 1 (some 68) (v := ?_) rfl rfl (by kernel_rfl) (fun _ _ _ h => h) (by rfl) hs ?_ ?_
      rotate_left
      · intro wx hx; obtain ⟨x1, x2⟩ := hx; go_simp; try with_reducible rfl
      simp only [Act.put, List.setIfInBounds_toArray, List.set_cons_succ, List.set_cons_zero]
      refine Z_takeD 2 (some 69) (v := ?_) rfl rfl (by kernel_rfl) (fun _ _ _ h => h) (by rfl) hs ?_ ?_
      rotate_left
      · intro wx hx; obtain ⟨x1, x2⟩ := hx; go_simp; try with_reducible rfl
      simp only [Act.put, List.setIfInBounds_toArray, List.set_cons_succ, List.set_cons_zero]
      refine Z_takeD 3 (some 70) (v := ?_) rfl rfl (by kernel_rfl) (fun _ _ _ h => h) (by rfl) hs ?_ ?_
      rotate_left
      · intro wx hx; obtain ⟨x1, x2⟩ := hx; go_simp; try with_reducible rfl
      simp only [Act.put, List.setIfInBounds_toArray, List.set_cons_succ, List.set_cons_zero]
      refine Z_takeD 4 (some 71) (v := ?_) rfl rfl (by kernel_rfl) (fun _ _ _ h => h) (by rfl) hs ?_ ?_
      rotate_left
      · intro wx hx; obtain ⟨x1, x2⟩ := hx; go_simp; try with_reducible rfl
      simp only [Act.put, List.setIfInBounds_toArray, List.set_cons_succ, List.set_cons_zero]
      refine Z_takeD 5 (some 72) (v := ?_) rfl rfl (by kernel_rfl) (fun _ _ _ h => h) (by rfl) hs ?_ ?_
      rotate_left
      · intro wx hx; obtain ⟨x1, x2⟩ := hx; go_simp; try with_reducible rfl
      simp only [Act.put, List.setIfInBounds_toArray, List.set_cons_succ, List.set_cons_zero]
      refine Z_takeD 6 (some 73) (v := ?_) rfl rfl (by kernel_rfl) (fun _ _ _ h => h) (by rfl) hs ?_ ?_
      rotate_left
      · intro wx hx; obtain ⟨x1, x2⟩ := hx; go_simp; try with_reducible rfl
      simp only [Act.put, List.setIfInBounds_toArray, List.set_cons_succ, List.set_cons_zero]
      refine Z_mid 7 rfl (by kernel_rfl) (fun K hK => ?_)
      have ⟨x1, x2⟩ := hs
      refine step_copy rfl (.tmp 70) (.tmp 73) 28 28 (some 74) rfl rfl _ _ rfl rfl (hcp w1 hH1) ?_   -- call w
      clear x1 x2
      refine hK _ _ (⟨trivial, trivial⟩) (fun hs2 => ?_); clear hK K hs; have hs := hs2; clear hs2
      refine Z_takeD 8 (some 75) (v := ?_) rfl rfl (by kernel_rfl) (fun _ _ _ h => h) (by rfl) hs ?_ ?_
      rotate_left
      · intro wx hx; obtain ⟨x1, x2⟩ := hx; go_simp; try with_reducible rfl
      simp only [Act.put, List.setIfInBounds_toArray, List.set_cons_succ, List.set_cons_zero]
      refine Z_takeD 9 (some 10) (v := ?_) rfl rfl (by kernel_rfl) (fun _ _ _ h => h) (by rfl) hs ?_ ?_
      rotate_left
      · intro wx hx; obtain ⟨x1, x2⟩ := hx; go_simp; try with_reducible rfl
      simp only [Act.put, List.setIfInBounds_toArray, List.set_cons_succ, List.set_cons_zero]
      refine Z_done (by kernel_rfl) ?_ _
      have hrow := Holds.setRow' hH1 cur2
      have hGf := hG1.setRow w.heap.size cur2
      have hfin : RepTo w.heap.size n x w Fr (.int .i64 ((j : Int) + (mm : Int))) (w1.setRow w.heap.size cur2) :=
        ⟨j + mm, cur2, by omega, hmn, by congr 1, HCS.out, HTK.out, HCM.out, hrow, hGf⟩
      have HFIN := Lib.hid hfin
      have hwr : IntKind.i64.wrap ((j : Int) + (mm : Int)) = (j : Int) + (mm : Int) := wrap_small _ (by omega) (by omega)
      clear hfin hrow hGf hH1 hG1 hcp hsrc hsl1 HTK HCS HCM
      go_wp2_with fail
      rw [hwr]
      exact ⟨HFIN.out, by simp [intOf]; omega⟩
    · obtain rfl : j = n := by omega
      go_wp2_with fail
      go_ret
      refine ⟨_, [(w.heap.size, .cells cur 5)], rfl, ?_, hHr, hgr⟩
      unfold IsBytes
      rw [List.length_replicate]
      exact ⟨by simp, .inr ⟨_, _, cur, (0, 0), rfl, Nat.le_refl _, by simp [maxLen]; omega, by omega, by rw [Nat.mul_one]; exact htk, okfz_zero _, rfl⟩⟩
end Go.Proofs.Ytndalabilfdgkaa
