/-
  sculleryref22: Over, Behind, Pick, Runs.
-/
import Derived.Test.YtdbcmjambajffaaR22
namespace Go.Proofs.Ytdbcmjambajffaa
open Go.RowKit
set_option linter.unusedSimpArgs false
set_option linter.unusedVariables false

set_option maxRecDepth 20000 in
set_option maxHeartbeats 1000000 in
theorem r22over_any (d l p : Int) (w : World) : Calls Try.prog 14 #[.int .i64 d, .int .i64 l, .int .i64 p] w fun e w' => e = .returned (.bool (overB d l p)) ∧ w = w' := by
  have F1 := Lib.hid (r22fine_any d w)
  have F2 := Lib.hid (r22fine_any l w)
  have F3 := Lib.hid (r22fine_any p w)
  by_cases fd : 0 ≤ d ∧ d ≤ 1073741824
  · rw [decide_eq_true fd] at F1
    by_cases fl : 0 ≤ l ∧ l ≤ 1073741824
    · rw [decide_eq_true fl] at F2
      by_cases fp : 0 ≤ p ∧ p ≤ 1073741824
      · rw [decide_eq_true fp] at F3
        have m0 : 0 ≤ p * l := Int.mul_nonneg fp.1 fl.1
        have m1 : p * l ≤ 1073741824 * 1073741824 := Int.mul_le_mul fp.2 fl.2 fl.1 (by omega)
        have hyes : overB d l p = decide (p * l < 100 * d) := by
          unfold overB
          by_cases h : p * l < 100 * d
          · rw [decide_eq_true h, decide_eq_true ⟨fd, fl, fp, h⟩]
          · rw [decide_eq_false h, decide_eq_false fun h2 => h h2.2.2.2]
        have HY := Lib.hid hyes
        have hd1 := fd.1
        have hd2 := fd.2
        clear hyes fl fp fd
        generalize hm : p * l = q at *
        have HM := Lib.hid hm
        have hw1 : wrap64 q = q := by unfold wrap64; omega
        have hw2 : wrap64 (100 * d) = 100 * d := by unfold wrap64; omega
        go_enter Try.func14, Try.ntmps14
        go_wp2_with fail
        refine F1.out.mono ?_
        rintro e w1 ⟨rfl, rfl⟩
        go_wp2_with fail
        refine F2.out.mono ?_
        rintro e w1 ⟨rfl, rfl⟩
        go_wp2_with fail
        refine F3.out.mono ?_
        rintro e w1 ⟨rfl, rfl⟩
        go_wp2_with fail
        go_ret
        rw [HY.out]; exact ⟨rfl, rfl⟩
      · rw [decide_eq_false fp] at F3
        have HY := Lib.hid (overB_no (d := d) (l := l) (p := p) fun h => fp h.2.2)
        clear fd fl fp
        go_enter Try.func14, Try.ntmps14
        go_wp2_with fail
        refine F1.out.mono ?_
        rintro e w1 ⟨rfl, rfl⟩
        go_wp2_with fail
        refine F2.out.mono ?_
        rintro e w1 ⟨rfl, rfl⟩
        go_wp2_with fail
        refine F3.out.mono ?_
        rintro e w1 ⟨rfl, rfl⟩
        go_wp2_with fail
        go_ret
        rw [HY.out]; exact ⟨rfl, rfl⟩
    · rw [decide_eq_false fl] at F2
      have HY := Lib.hid (overB_no (d := d) (l := l) (p := p) fun h => fl h.2.1)
      clear fd fl F3
      go_enter Try.func14, Try.ntmps14
      go_wp2_with fail
      refine F1.out.mono ?_
      rintro e w1 ⟨rfl, rfl⟩
      go_wp2_with fail
      refine F2.out.mono ?_
      rintro e w1 ⟨rfl, rfl⟩
      go_wp2_with fail
      go_ret
      rw [HY.out]; exact ⟨rfl, rfl⟩
  · rw [decide_eq_false fd] at F1
    have HY := Lib.hid (overB_no (d := d) (l := l) (p := p) fun h => fd h.1)
    clear fd F2 F3
    go_enter Try.func14, Try.ntmps14
    go_wp2_with fail
    refine F1.out.mono ?_
    rintro e w1 ⟨rfl, rfl⟩
    go_wp2_with fail
    go_ret
    rw [HY.out]; exact ⟨rfl, rfl⟩

set_option maxRecDepth 20000 in
theorem r22behind_any (f : Int) (v : Value) (zs : List Int) (w : World) (hv : WsAt w v zs) : Calls Try.prog 16 #[.int .u64 f, v] w fun e w' => e = .returned (.int .u64 (behindU f zs)) ∧ w = w' := by
  obtain ⟨_, A, c, rfl, hc1, hc2, hrd⟩ := hv
  unfold maxLen at hc2
  by_cases h0 : zs.length = 0
  · have hb : behindU f zs = f := by rw [List.length_eq_zero_iff.1 h0]; rfl
    have HB := Lib.hid hb
    have h0i : (zs.length : Int) = 0 := by omega
    clear hb hrd
    go_enter Try.func16, Try.ntmps16
    go_wp2_with fail
    go_ret
    rw [HB.out]; exact ⟨rfl, rfl⟩
  · obtain ⟨b, o, rfl, hcl⟩ := hrd (by omega)
    have hlast : zs.getLast? = some (zs[zs.length - 1]'(by omega)) := by rw [List.getLast?_eq_getElem?, List.getElem?_eq_getElem (by omega)]
    have hb : behindU f zs = (zs[zs.length - 1]'(by omega) + 1) % 18446744073709551616 := by unfold behindU; rw [hlast]
    have c0 := hcl (zs.length - 1) (.int .u64 (zs[zs.length - 1]'(by omega))) (by rw [List.getElem?_map, List.getElem?_eq_getElem (by omega)]; rfl)
    generalize zs[zs.length - 1]'(by omega) = z at *
    have HB := Lib.hid hb
    have h0i : ¬ (zs.length : Int) = 0 := by omega
    have hn : (zs.length : Int) - 1 = ((zs.length - 1 : Nat) : Int) := by omega
    clear hb hcl hlast hrd
    go_enter Try.func16, Try.ntmps16
    go_wp2_with fail
    go_ret
    rw [HB.out]; exact ⟨rfl, rfl⟩

/-- Pick, the plain side -/
def condP (f : Int) (r : Nat) (x : Int) : Bool := decide (f ≤ x) == (((r : Nat) : Int) == 0)
def baseP (f : Int) (s : List Int) (r : Nat) : List Int := ((List.range r).map fun q => s.filter (condP f q)).flatten
theorem base_succ (f : Int) (s : List Int) (r : Nat) : baseP f s (r + 1) = baseP f s r ++ s.filter (condP f r) := by simp [baseP, List.range_succ]
def outP (f : Int) (s : List Int) (M r i : Nat) : List Int := (baseP f s r ++ (s.take i).filter (condP f r)).take M
theorem outP_zero (f : Int) (s : List Int) (M r : Nat) : outP f s M r 0 = (baseP f s r).take M := by simp [outP]
theorem outP_end (f : Int) (s : List Int) (M r : Nat) : outP f s M r s.length = (baseP f s (r + 1)).take M := by rw [outP, List.take_length, base_succ]
theorem outP_no {f : Int} {s : List Int} {M r i : Nat} (hi : i < s.length) (h : condP f r s[i] = false) : outP f s M r (i + 1) = outP f s M r i := by
  unfold outP
  rw [List.take_succ_eq_append_getElem hi, List.filter_append]
  simp [h]
theorem outP_full {f : Int} {s : List Int} {M r i : Nat} (hi : i < s.length) (h : ¬ (outP f s M r i).length < M) : outP f s M r (i + 1) = outP f s M r i := by
  unfold outP at *
  rw [List.length_take] at h
  rw [List.take_succ_eq_append_getElem hi, List.filter_append, ← List.append_assoc, List.take_append_of_le_length (by omega)]
theorem outP_add {f : Int} {s : List Int} {M r i : Nat} (hi : i < s.length) (h : (outP f s M r i).length < M) (hc : condP f r s[i] = true) : outP f s M r (i + 1) = outP f s M r i ++ [s[i]] := by
  unfold outP at *
  rw [List.length_take] at h
  rw [List.take_succ_eq_append_getElem hi, List.filter_append]
  simp only [List.filter_cons, hc, if_true, List.filter_nil]
  rw [← List.append_assoc]
  generalize baseP f s r ++ List.filter (condP f r) (List.take i s) = l at *
  rw [List.take_of_length_le (l := l) (by omega), List.take_of_length_le (by simp; omega)]
theorem outP_len (f : Int) (s : List Int) (M r i : Nat) : (outP f s M r i).length ≤ M := by unfold outP; rw [List.length_take]; omega
theorem base_len (f : Int) (s : List Int) : ∀ r, (baseP f s r).length ≤ r * s.length
  | 0 => by simp [baseP]
  | r + 1 => by
    rw [base_succ, List.length_append, Nat.succ_mul]
    have := base_len f s r
    have := List.length_filter_le (condP f r) s
    omega
theorem outP_bd (f : Int) (s : List Int) (M r i : Nat) : (outP f s M r i).length ≤ (r + 1) * s.length := by
  unfold outP
  rw [List.length_take, List.length_append, Nat.succ_mul]
  have := base_len f s r
  have h := List.length_filter_le (condP f r) (s.take i)
  rw [List.length_take] at h
  omega
theorem pick_out {f many : Int} {zs : List Int} : (baseP f (onceU zs) 2).take many.toNat = pickU many f zs := by
  have hi := onceU_inc zs
  unfold pickU
  by_cases h : many < 1
  · rw [if_pos h, show many.toNat = 0 by omega, List.take_zero]
  · rw [if_neg h]
    congr 1
    rw [base_succ, base_succ]
    simp only [baseP, List.range_zero, List.map_nil, List.flatten_nil, List.nil_append]
    have hp : ∀ (s : List Int), Inc s → s.drop (idxU f s) = s.filter (condP f 0) ∧ s.take (idxU f s) = s.filter (condP f 1) := by
      intro s
      induction s with
      | nil => intro _; simp [idxU]
      | cons x s ih =>
        intro hs
        obtain ⟨h1, h2⟩ := List.pairwise_cons.1 hs
        obtain ⟨i1, i2⟩ := ih h2
        by_cases hx : x < f
        · have e : idxU f (x :: s) = idxU f s + 1 := by unfold idxU; rw [List.countP_cons_of_pos (by simpa using hx)]
          have c0 : condP f 0 x = false := by unfold condP; rw [decide_eq_false (by omega)]; rfl
          have c1 : condP f 1 x = true := by unfold condP; rw [decide_eq_false (by omega)]; rfl
          rw [e, List.drop_succ_cons, List.take_succ_cons, i1, i2, List.filter_cons, List.filter_cons, c0, c1]
          exact ⟨rfl, rfl⟩
        · have hz : ∀ y ∈ x :: s, f ≤ y := by
            intro y hy
            rcases List.mem_cons.1 hy with rfl | hy
            · omega
            · have := h1 y hy; omega
          have e : idxU f (x :: s) = 0 := by
            unfold idxU
            rw [List.countP_eq_zero]
            intro y hy
            have := hz y hy
            simp; omega
          have c0 : ∀ y ∈ x :: s, condP f 0 y = true := fun y hy => by unfold condP; rw [decide_eq_true (hz y hy)]; rfl
          have c1 : ∀ y ∈ x :: s, condP f 1 y = false := fun y hy => by unfold condP; rw [decide_eq_true (hz y hy)]; rfl
          rw [e, List.drop_zero, List.take_zero]
          refine ⟨(List.filter_eq_self.2 c0).symm, (List.filter_eq_nil_iff.2 fun y hy => by rw [c1 y hy]; simp).symm⟩
    obtain ⟨e1, e2⟩ := hp _ hi
    rw [e1, e2]

def RPickTo (f : Int) (s : List Int) (M : Nat) (w : World) (Fr : HL) (ov rv : Value) (wr : World) : Prop :=
  ∃ (r : Nat) (H : HL), r ≤ 2 ∧ rv = .int .i64 r ∧ IsWs ov ((baseP f s r).take M) H ∧ Holds wr (H ++ Fr) ∧ Grew w wr
def RPick2To (f : Int) (s : List Int) (M r : Nat) (w : World) (Fr : HL) (ov iv : Value) (wr : World) : Prop :=
  ∃ (i : Nat) (H : HL), i ≤ s.length ∧ iv = .int .i64 i ∧ IsWs ov (outP f s M r i) H ∧ Holds wr (H ++ Fr) ∧ Grew w wr

set_option maxRecDepth 20000 in
set_option maxHeartbeats 1000000 in
theorem r22pick_any (many f : Int) (v : Value) (zs : List Int) (w : World) (Fr : HL) (hv : ∀ wx, Holds wx Fr → WsAt wx v zs) (hH : Holds w Fr) (hsm : zs.length ≤ 1000000) (hu : U64s zs) (hf : 0 ≤ f ∧ f < 18446744073709551616) :
    Calls Try.prog 12 #[.int .i64 many, .int .u64 f, v] w (RetNew (fun v' H' => IsWs v' (pickU many f zs) H') w Fr) := by
  have HO := Lib.hid (r22sorted_any v zs w Fr hv hH hsm)
  obtain ⟨_, A, c, rfl, _⟩ := hv w hH
  have HPO := Lib.hid (pick_out (f := f) (many := many) (zs := zs))
  have hls := onceU_len zs
  have HU := Lib.hid hu.once
  obtain ⟨M, hM⟩ : ∃ M : Nat, many.toNat = M := ⟨_, rfl⟩
  rw [hM] at HPO
  have HMM := Lib.hid hM
  clear hM
  generalize onceU zs = s at *
  go_enter Try.func12, Try.ntmps12
  go_wp2_with fail
  refine HO.out.mono ?_
  rintro e w1 ⟨v1, H1, rfl, h1, hH1, hg1⟩
  clear HO hu
  have HRD := Lib.hid (fun (wx : World) (F : HL) (hx : Holds wx (H1 ++ F)) => (h1.at_ hx))
  obtain ⟨A1, c1, rfl⟩ := h1.val
  clear h1 hv
  go_wp2_with fail
  go_loopw [8, 9, 10] (fun ov rv iv wr => RPickTo f s M w (H1 ++ Fr) ov rv wr) (fun _ rv _ _ => 2 - (intOf rv).toNat)
  case atStart => exact ⟨0, [], by omega, rfl, by rw [show (baseP f s 0).take M = [] by simp [baseP]]; exact IsRow.nil _ _, hH1, hg1⟩
  case round =>
    obtain ⟨r, H, hr, rfl, ho, hHr, hgr⟩ := hrel
    by_cases hr2 : r < 2
    · have ho2 := ho
      rw [← outP_zero] at ho2
      have HS0 := Lib.hid ho2
      obtain ⟨A2, c2, rfl⟩ := ho.val
      rw [outP_zero] at HS0
      clear ho ho2
      go_wp2_with fail
      go_loopw [8, 10] (fun ov iv wr => RPick2To f s M r w (H1 ++ Fr) ov iv wr) (fun _ iv _ => s.length - (intOf iv).toNat)
      case atStart => exact ⟨0, H, by omega, rfl, by rw [outP_zero]; exact HS0.out, hHr, hgr⟩
      case round =>
        obtain ⟨i, H2, hi, rfl, ho, hHr2, hgr2⟩ := hrel
        have HS2 := Lib.hid ho
        have hl2 := outP_len f s M r i
        obtain ⟨A3, c3, rfl⟩ := ho.val
        clear ho
        by_cases hlt : i < s.length
        · obtain ⟨_, A4, c4, hv4, _, hc4, hrd4⟩ := HRD.out wr _ hHr2.comm.assoc
          injection hv4 with hv41 _ hv43
          subst hv41; subst hv43
          obtain ⟨b, o, rfl, hcl⟩ := hrd4 (by omega)
          have d0 := hcl i (.int .u64 s[i]) (by rw [List.getElem?_map, List.getElem?_eq_getElem hlt]; rfl)
          have hxb := HU.out s[i] (List.getElem_mem _)
          have HNO := Lib.hid (outP_no (f := f) (M := M) (r := r) hlt)
          have HFULL := Lib.hid (outP_full (f := f) (M := M) (r := r) hlt)
          have HADD := Lib.hid (outP_add (f := f) (M := M) (r := r) hlt)
          clear hcl hrd4 hc4
          generalize s[i] = x at *
          cases hcx : condP f r x with
          | false =>
            have hcx2 : (decide (f ≤ x) == (((r : Nat) : Int) == 0)) = false := hcx
            have HE := Lib.hid (HNO.out hcx)
            clear HNO HFULL HADD hcx
            go_wp2_with fail
            exact ⟨⟨i + 1, H2, by omega, by go_num, by rw [HE.out]; exact HS2.out, hHr2, hgr2⟩, by simp [intOf]; omega⟩
          | true =>
            have hcx2 : (decide (f ≤ x) == (((r : Nat) : Int) == 0)) = true := hcx
            have HR2 : Hid (IsRow 22 1 (.slice A3 (outP f s M r i).length c3) (outP f s M r i).length ((outP f s M r i).map (Value.int .u64)) H2) := HS2
            by_cases hlm : (outP f s M r i).length < M
            · have HE := Lib.hid (HADD.out hlm hcx)
              have hin : ((outP f s M r i).length : Int) < many := by have := HMM.out; omega
              have hL2 : (outP f s M r i).length ≤ 2000000 := by
                have h1 := outP_bd f s M r i
                have h2 : (r + 1) * s.length ≤ 2 * s.length := Nat.mul_le_mul_right _ (by omega)
                omega
              clear HNO HFULL HADD hcx hlm
              generalize hLL : (outP f s M r i).length = L at *
              have HLL := Lib.hid hLL
              clear hLL
              go_wp2_with (at_builtin; refine wpList_append_T tWs (by rfl) (.tmp 38) (.tmp 43) (by rfl) (by rfl) (by rfl) HR2.out (hHr2.alloc' _) ReadsAt.one (by simp [Value.oneCell']) (by unfold maxLen; omega) (by omega) ?_; intro A' c' w3 H' hrow hH3 hg3)
              refine ⟨⟨i + 1, H', by omega, by go_num, ?_, hH3, (hgr2.alloc _).trans hg3⟩, by simp [intOf]; omega⟩
              rw [HE.out]
              unfold IsWs
              rw [List.length_append, HLL.out, List.map_append]
              exact hrow
            · have HE := Lib.hid (HFULL.out hlm)
              have hin : ¬ ((outP f s M r i).length : Int) < many := by have := HMM.out; omega
              clear HNO HFULL HADD hcx hlm HR2
              go_wp2_with fail
              exact ⟨⟨i + 1, H2, by omega, by go_num, by rw [HE.out]; exact HS2.out, hHr2, hgr2⟩, by simp [intOf]; omega⟩
        · have hil : i = s.length := by omega
          subst hil
          have HS3 : Hid (IsWs (.slice A3 (outP f s M r s.length).length c3) ((baseP f s (r + 1)).take M) H2) := Lib.hid (by rw [← outP_end]; exact HS2.out)
          go_wp2_with fail
          go_roundw
          case rel => exact ⟨r + 1, H2, by omega, by go_num, HS3.out, hHr2, hgr2⟩
          case measure => simp [intOf]; omega
    · have hr3 : r = 2 := by omega
      subst hr3
      rw [HPO.out] at ho
      have HF := Lib.hid ho
      clear ho
      go_wp2_with fail
      go_ret
      exact ⟨_, H, rfl, HF.out, hHr.sub (by (repeat' (first | refine sub_append ?_ ?_ | refine sub_cons ?_ ?_ | exact sub_nil)); all_goals first | (intro p hp; simp only [List.mem_append, List.mem_cons, hp, true_or, or_true]) | simp only [List.mem_append, List.mem_cons, true_or, or_true]) (fun b => by simp only [keyc_append, keyc_cons, keyc_nil]; omega), hgr⟩

theorem tR22 : SlT Try.prog 28 37 2 16 (.agg #[.int .u64 0, .int .i64 0]) := SlT.mk' (by kernel_rfl) (by kernel_rfl) (by rfl) (by decide)
def IsR22 (v : Value) (rs : List (Int × Int)) (H : HL) : Prop := IsRow 37 2 v rs.length (rs.flatMap runC) H
def R22To (s : List Int) (w : World) (Fr : HL) (out i : Value) (wr : World) : Prop :=
  ∃ (k : Nat) (H : HL), k ≤ s.length ∧ i = .int .i64 k ∧ IsR22 out (runsU (s.take k)) H ∧ Holds wr (H ++ Fr) ∧ Grew w wr
set_option maxRecDepth 20000 in
set_option maxHeartbeats 1000000 in
theorem r22runs_any (v : Value) (zs : List Int) (w : World) (Fr : HL) (hv : ∀ wx, Holds wx Fr → WsAt wx v zs) (hH : Holds w Fr) (hsm : zs.length ≤ 1000000) (hu : U64s zs) :
    Calls Try.prog 10 #[v] w (RetNew (fun v' H' => IsR22 v' (runsU (onceU zs)) H') w Fr) := by
  have HO := Lib.hid (r22sorted_any v zs w Fr hv hH hsm)
  obtain ⟨_, A, c, rfl, _⟩ := hv w hH
  have hls := onceU_len zs
  have HI := Lib.hid (onceU_inc zs)
  have HU := Lib.hid hu.once
  generalize onceU zs = s at *
  go_enter Try.func10, Try.ntmps10
  go_wp2_with fail
  refine HO.out.mono ?_
  rintro e w1 ⟨v1, H1, rfl, h1, hH1, hg1⟩
  clear HO hu
  have HRD := Lib.hid (fun (wx : World) (F : HL) (hx : Holds wx (H1 ++ F)) => (h1.at_ hx))
  obtain ⟨A1, c1, rfl⟩ := h1.val
  clear h1 hv
  go_wp2_with fail
  go_loopw [4, 5, 6] (fun out i n wr => R22To s w (H1 ++ Fr) out i wr) (fun _ i _ _ => s.length - (intOf i).toNat)
  case atStart => exact ⟨0, [], by omega, rfl, IsRow.nil _ _, hH1, hg1⟩
  case round =>
    obtain ⟨k, H, hk, rfl, hr, hHr, hgr⟩ := hrel
    have HR := Lib.hid hr
    obtain ⟨A2, c2, rfl⟩ := hr.val
    by_cases hlt : k < s.length
    · have hrd := HRD.out wr _ hHr.comm.assoc
      obtain ⟨_, A3, c3, hv3, _, hc33, hrd3⟩ := hrd
      injection hv3 with hv31 _ hv33
      subst hv31; subst hv33
      obtain ⟨b, o, rfl, hcl⟩ := hrd3 (by omega)
      have ca := hcl k (.int .u64 s[k]) (by rw [List.getElem?_map, List.getElem?_eq_getElem hlt]; rfl)
      have hst : s.take (k + 1) = s.take k ++ [s[k]] := List.take_succ_eq_append_getElem hlt
      have HST : Hid (runsU (s.take (k + 1)) = runStep (runsU (s.take k)) s[k]) := Lib.hid (by rw [hst, runsU_snoc])
      have hi1 : Inc (s.take k) := HI.out.sublist (List.take_sublist _ _)
      have hu1 : U64s (s.take k) := fun x hx => HU.out x (List.mem_of_mem_take hx)
      have HIV := Lib.hid (run_inv _ (s.take k) rfl hi1 hu1)
      have hlr := runs_len _ hi1 hu1
      have HBD := Lib.hid (runs_bd _ hi1 hu1)
      rw [List.length_take] at hlr
      rcases Nat.eq_zero_or_pos k with h0 | h0
      · have hrs : runsU (s.take k) = [] := by subst h0; rfl
        have HE : Hid (runsU (s.take (k + 1)) = [] ++ [(s[k], 1)]) := Lib.hid (by rw [HST.out, hrs]; rfl)
        have e0 : decide ((0 : Int) < (k : Int)) = false := decide_eq_false (by omega)
        have e1 : decide (0 < k) = false := decide_eq_false (by omega)
        have HR' : Hid (IsRow 37 2 (.slice A2 (runsU (s.take k)).length c2) 0 [] H) := Lib.hid (by have h := HR.out; unfold IsR22 at h; rw [hrs] at h ⊢; exact h)
        rw [hrs] at HR' ⊢
        clear hst hcl hrd3 hi1 hu1 hr hc33 HIV HBD hlr hrs HST HR h0
        generalize s[k] = a at *
        go_upto_region 7 with fail
        refine Z_begin (fun wx => True ∧ True) 15 (by kernel_rfl) (fun w1 hd => ⟨trivial, trivial⟩) (fun w1 hd hs => ?_)
        obtain ⟨nq, rfl⟩ := hd
        refine Z_takeD 0 (some 17) (v := ?_) rfl rfl (by kernel_rfl) (fun _ _ _ h => h) (by rfl) hs ?_ ?_
        rotate_left
        · intro wx hx; obtain ⟨s1, s2⟩ := hx; go_simp; try with_reducible rfl
        simp only [Act.put, List.setIfInBounds_toArray, List.set_cons_succ, List.set_cons_zero]
        refine Z_takeD 1 (some 18) (v := ?_) rfl rfl (by kernel_rfl) (fun _ _ _ h => h) (by rfl) hs ?_ ?_
        rotate_left
        · intro wx hx; obtain ⟨s1, s2⟩ := hx; go_simp; try with_reducible rfl
        simp only [Act.put, List.setIfInBounds_toArray, List.set_cons_succ, List.set_cons_zero]
        refine Z_takeD 2 (some 19) (v := ?_) rfl rfl (by kernel_rfl) (fun _ _ _ h => h) (by rfl) hs ?_ ?_
        rotate_left
        · intro wx hx; obtain ⟨s1, s2⟩ := hx; go_simp; try with_reducible rfl
        simp only [Act.put, List.setIfInBounds_toArray, List.set_cons_succ, List.set_cons_zero]
        refine Z_skipD 3 (some 20) rfl rfl (by kernel_rfl) (fun _ _ _ h => h) (by rfl) hs ?_
        simp only [Act.put, List.setIfInBounds_toArray, List.set_cons_succ, List.set_cons_zero]
        refine Z_skipD 4 (some 21) rfl rfl (by kernel_rfl) (fun _ _ _ h => h) (by rfl) hs ?_
        simp only [Act.put, List.setIfInBounds_toArray, List.set_cons_succ, List.set_cons_zero]
        refine Z_skipD 5 (some 22) rfl rfl (by kernel_rfl) (fun _ _ _ h => h) (by rfl) hs ?_
        simp only [Act.put, List.setIfInBounds_toArray, List.set_cons_succ, List.set_cons_zero]
        refine Z_skipD 6 (some 23) rfl rfl (by kernel_rfl) (fun _ _ _ h => h) (by rfl) hs ?_
        simp only [Act.put, List.setIfInBounds_toArray, List.set_cons_succ, List.set_cons_zero]
        refine Z_skipD 7 (some 24) rfl rfl (by kernel_rfl) (fun _ _ _ h => h) (by rfl) hs ?_
        simp only [Act.put, List.setIfInBounds_toArray, List.set_cons_succ, List.set_cons_zero]
        refine Z_skipD 8 (some 25) rfl rfl (by kernel_rfl) (fun _ _ _ h => h) (by rfl) hs ?_
        simp only [Act.put, List.setIfInBounds_toArray, List.set_cons_succ, List.set_cons_zero]
        refine Z_skipD 9 (some 26) rfl rfl (by kernel_rfl) (fun _ _ _ h => h) (by rfl) hs ?_
        simp only [Act.put, List.setIfInBounds_toArray, List.set_cons_succ, List.set_cons_zero]
        refine Z_skipD 10 (some 27) rfl rfl (by kernel_rfl) (fun _ _ _ h => h) (by rfl) hs ?_
        simp only [Act.put, List.setIfInBounds_toArray, List.set_cons_succ, List.set_cons_zero]
        refine Z_skipD 11 (some 28) rfl rfl (by kernel_rfl) (fun _ _ _ h => h) (by rfl) hs ?_
        simp only [Act.put, List.setIfInBounds_toArray, List.set_cons_succ, List.set_cons_zero]
        refine Z_skipD 12 (some 29) rfl rfl (by kernel_rfl) (fun _ _ _ h => h) (by rfl) hs ?_
        simp only [Act.put, List.setIfInBounds_toArray, List.set_cons_succ, List.set_cons_zero]
        refine Z_skipD 13 (some 30) rfl rfl (by kernel_rfl) (fun _ _ _ h => h) (by rfl) hs ?_
        simp only [Act.put, List.setIfInBounds_toArray, List.set_cons_succ, List.set_cons_zero]
        refine Z_takeD 14 (some 31) (v := ?_) rfl rfl (by kernel_rfl) (fun _ _ _ h => h) (by rfl) hs ?_ ?_
        rotate_left
        · intro wx hx; obtain ⟨s1, s2⟩ := hx; go_simp; try with_reducible rfl
        simp only [Act.put, List.setIfInBounds_toArray, List.set_cons_succ, List.set_cons_zero]
        refine Z_done (by kernel_rfl) ?_ _
        go_wp2_with (at_builtin; refine wpList_append_T tR22 (by rfl) (.tmp 41) (.tmp 47) (by rfl) (by rfl) (by rfl) HR'.out ((hHr.drewN nq).alloc' _) (ReadsAt.many (w := wr.drewN nq) (n := 1) (size := 2) (cs := #[.int .u64 a, .int .i64 1]) (by rfl) (by simp [maxLen])) (by simp [Value.oneCell']) (by simp [maxLen]) (by omega) ?_; intro A' c' w' H' hrow hH3 hg3)
        go_roundw
        case rel => exact ⟨k + 1, H', by omega, by go_num, by rw [HE.out]; exact hrow, hH3, ((hgr.drewN nq).alloc _).trans hg3⟩
        case measure => simp [intOf]; omega
      · have hkl : k - 1 < s.length := by omega
        have d0 := hcl (k - 1) (.int .u64 s[k - 1]) (by rw [List.getElem?_map, List.getElem?_eq_getElem hkl]; rfl)
        have hkm : (k : Int) - 1 = ((k - 1 : Nat) : Int) := by omega
        have hkw : IntKind.i64.wrap ((k - 1 : Nat) : Int) = ((k - 1 : Nat) : Int) := by simp only [IntKind.wrap, IntKind.signed, IntKind.bits]; simp; omega
        have hba : s[k - 1] < s[k] := List.pairwise_iff_getElem.1 HI.out (k - 1) k hkl hlt (by omega)
        have hab := HU.out s[k] (List.getElem_mem _)
        have hbb := HU.out s[k - 1] (List.getElem_mem _)
        have e0 : decide ((0 : Int) < (k : Int)) = true := decide_eq_true (by omega)
        have e1 : decide (0 < k) = true := decide_eq_true (by omega)
        have hglast : (s.take k).getLast? = some s[k - 1] := by
          rw [List.getLast?_eq_getElem?, List.length_take, Nat.min_eq_left (by omega), List.getElem?_take_of_lt (by omega), List.getElem?_eq_getElem hkl]
        cases hrl : (runsU (s.take k)).getLast? with
        | none =>
          exfalso
          have h1 : runsU (s.take k) = [] := by simpa using hrl
          have h2 := HIV.out.exp
          rw [h1] at h2
          have h3 : (s.take k).length = 0 := by rw [← h2]; rfl
          rw [List.length_take] at h3
          omega
        | some r =>
          have hlast := HIV.out.last hrl
          rw [hglast] at hlast
          have hly : s[k - 1] = r.1 + r.2 - 1 := by injection hlast
          obtain ⟨ys, hys⟩ := List.getLast?_eq_some_iff.1 hrl
          clear hst hcl hrd3 hi1 hu1 hr hc33 HIV hglast hlast
          generalize s[k] = a at *
          generalize s[k - 1] = y at *
          generalize runsU (s.take k) = rs at *
          subst hys
          have hbr := HBD.out r (by simp)
          obtain ⟨r1, r2⟩ := r
          simp only at hbr hly
          have hyl : (ys ++ [(r1, r2)]).length = ys.length + 1 := by simp
          have hget := runC_get (ys ++ [(r1, r2)]) ys.length (by simp)
          have HR' : Hid (IsRow 37 2 (.slice A2 (ys.length + 1) c2) (ys.length + 1) ((ys ++ [(r1, r2)]).flatMap runC) H) := Lib.hid (by have := HR.out; unfold IsR22 at this; rw [hyl] at this; exact this)
          obtain ⟨g, cap, hv, hnc, hcm, hgl, hcell, hfro, hset⟩ := HR'.out.cell hHr (j := ys.length * 2 + 1) (by rw [runC_len, hyl]; omega)
          injection hv with hv1 _ hv3
          subst hv1; subst hv3
          have HS := Lib.hid hset
          have hg2 : (ys ++ [(r1, r2)])[ys.length]'(by simp) = (r1, r2) := by simp
          rw [hg2] at hget
          rw [(List.getElem?_eq_some_iff.1 hget.2).2] at hcell
          rw [hyl] at hlr
          unfold maxLen at hcm
          clear hset hget HR HBD hg2
          rw [hyl]
          generalize hm : ys.length = m at *
          rw [List.length_take] at hbr
          have hnm : ((m : Int) + 1) - 1 = (m : Int) := by omega
          by_cases hc : a = y + 1
          · have HE : Hid (runsU (s.take (k + 1)) = ys ++ [(r1, r2 + 1)]) := Lib.hid (by
              rw [HST.out]; unfold runStep; rw [hrl]
              have h1 : (r1 + r2) % 18446744073709551616 = a := by omega
              simp only [h1, if_true, List.dropLast_concat])
            have hb2 : (a == y + 1) = true := by simpa using hc
            have hww : IntKind.u64.wrap (y + 1) = y + 1 := by rw [IntKind.wrap_u64]; omega
            have HC2 := Lib.hid hc
            have HLY := Lib.hid hly
            clear HST hrl hc hly
            go_upto_region 7 with fail
            refine Z_begin (fun wx => wx.cell? ⟨b, o + k, none⟩ = some (.int .u64 a) ∧ wx.cell? ⟨b, o + (k - 1), none⟩ = some (.int .u64 y)) 15 (by kernel_rfl) (fun w1 hd => by obtain ⟨q, rfl⟩ := hd; exact ⟨ca, d0⟩) (fun w1 hd hs => ?_)
            obtain ⟨nq, rfl⟩ := hd
            refine Z_takeD 0 (some 17) (v := ?_) rfl rfl (by kernel_rfl) (fun _ _ _ h => h) (by rfl) hs ?_ ?_
            rotate_left
            · intro wx hx; obtain ⟨s1, s2⟩ := hx; go_simp; try with_reducible rfl
            simp only [Act.put, List.setIfInBounds_toArray, List.set_cons_succ, List.set_cons_zero]
            refine Z_takeD 1 (some 18) (v := ?_) rfl rfl (by kernel_rfl) (fun _ _ _ h => h) (by rfl) hs ?_ ?_
            rotate_left
            · intro wx hx; obtain ⟨s1, s2⟩ := hx; go_simp; try with_reducible rfl
            simp only [Act.put, List.setIfInBounds_toArray, List.set_cons_succ, List.set_cons_zero]
            refine Z_takeD 2 (some 19) (v := ?_) rfl rfl (by kernel_rfl) (fun _ _ _ h => h) (by rfl) hs ?_ ?_
            rotate_left
            · intro wx hx; obtain ⟨s1, s2⟩ := hx; go_simp; try with_reducible rfl
            simp only [Act.put, List.setIfInBounds_toArray, List.set_cons_succ, List.set_cons_zero]
            refine Z_takeD 3 (some 20) (v := ?_) rfl rfl (by kernel_rfl) (fun _ _ _ h => h) (by rfl) hs ?_ ?_
            rotate_left
            · intro wx hx; obtain ⟨s1, s2⟩ := hx; go_simp; try with_reducible rfl
            simp only [Act.put, List.setIfInBounds_toArray, List.set_cons_succ, List.set_cons_zero]
            refine Z_takeD 4 (some 21) (v := ?_) rfl rfl (by kernel_rfl) (fun _ _ _ h => h) (by rfl) hs ?_ ?_
            rotate_left
            · intro wx hx; obtain ⟨s1, s2⟩ := hx; go_simp; try with_reducible rfl
            simp only [Act.put, List.setIfInBounds_toArray, List.set_cons_succ, List.set_cons_zero]
            refine Z_takeD 5 (some 22) (v := ?_) rfl rfl (by kernel_rfl) (fun _ _ _ h => h) (by rfl) hs ?_ ?_
            rotate_left
            · intro wx hx; obtain ⟨s1, s2⟩ := hx; go_simp; try with_reducible rfl
            simp only [Act.put, List.setIfInBounds_toArray, List.set_cons_succ, List.set_cons_zero]
            refine Z_takeD 6 (some 23) (v := ?_) rfl rfl (by kernel_rfl) (fun _ _ _ h => h) (by rfl) hs ?_ ?_
            rotate_left
            · intro wx hx; obtain ⟨s1, s2⟩ := hx; go_simp; try with_reducible rfl
            simp only [Act.put, List.setIfInBounds_toArray, List.set_cons_succ, List.set_cons_zero]
            refine Z_takeD 7 (some 24) (v := ?_) rfl rfl (by kernel_rfl) (fun _ _ _ h => h) (by rfl) hs ?_ ?_
            rotate_left
            · intro wx hx; obtain ⟨s1, s2⟩ := hx; go_simp; try with_reducible rfl
            simp only [Act.put, List.setIfInBounds_toArray, List.set_cons_succ, List.set_cons_zero]
            refine Z_takeD 8 (some 25) (v := ?_) rfl rfl (by kernel_rfl) (fun _ _ _ h => h) (by rfl) hs ?_ ?_
            rotate_left
            · intro wx hx; obtain ⟨s1, s2⟩ := hx; go_simp; try with_reducible rfl
            simp only [Act.put, List.setIfInBounds_toArray, List.set_cons_succ, List.set_cons_zero]
            refine Z_takeD 9 (some 26) (v := ?_) rfl rfl (by kernel_rfl) (fun _ _ _ h => h) (by rfl) hs ?_ ?_
            rotate_left
            · intro wx hx; obtain ⟨s1, s2⟩ := hx; go_simp; try with_reducible rfl
            simp only [Act.put, List.setIfInBounds_toArray, List.set_cons_succ, List.set_cons_zero]
            refine Z_takeD 10 (some 27) (v := ?_) rfl rfl (by kernel_rfl) (fun _ _ _ h => h) (by rfl) hs ?_ ?_
            rotate_left
            · intro wx hx; obtain ⟨s1, s2⟩ := hx; go_simp; try with_reducible rfl
            simp only [Act.put, List.setIfInBounds_toArray, List.set_cons_succ, List.set_cons_zero]
            refine Z_takeD 11 (some 28) (v := ?_) rfl rfl (by kernel_rfl) (fun _ _ _ h => h) (by rfl) hs ?_ ?_
            rotate_left
            · intro wx hx; obtain ⟨s1, s2⟩ := hx; go_simp; try with_reducible rfl
            simp only [Act.put, List.setIfInBounds_toArray, List.set_cons_succ, List.set_cons_zero]
            refine Z_takeD 12 (some 29) (v := ?_) rfl rfl (by kernel_rfl) (fun _ _ _ h => h) (by rfl) hs ?_ ?_
            rotate_left
            · intro wx hx; obtain ⟨s1, s2⟩ := hx; go_simp; try with_reducible rfl
            simp only [Act.put, List.setIfInBounds_toArray, List.set_cons_succ, List.set_cons_zero]
            refine Z_takeD 13 (some 30) (v := ?_) rfl rfl (by kernel_rfl) (fun _ _ _ h => h) (by rfl) hs ?_ ?_
            rotate_left
            · intro wx hx; obtain ⟨s1, s2⟩ := hx; go_simp; try with_reducible rfl
            simp only [Act.put, List.setIfInBounds_toArray, List.set_cons_succ, List.set_cons_zero]
            refine Z_takeD 14 (some 31) (v := ?_) rfl rfl (by kernel_rfl) (fun _ _ _ h => h) (by rfl) hs ?_ ?_
            rotate_left
            · intro wx hx; obtain ⟨s1, s2⟩ := hx; go_simp; try with_reducible rfl
            simp only [Act.put, List.setIfInBounds_toArray, List.set_cons_succ, List.set_cons_zero]
            refine Z_done (by kernel_rfl) ?_ _
            have hcell2 : (wr.drewN nq).cell? ⟨g, m * 2 + 1, none⟩ = some (.int .i64 r2) := hcell
            have hfro2 : (wr.drewN nq).frozen? ⟨g, m * 2 + 1, none⟩ = false := hfro
            have hHd := hHr.drewN nq
            have hGd := hgr.drewN nq
            clear hcell hfro ca d0 hs hHr hgr
            generalize wr.drewN nq = wd at *
            go_wp2_with fail
            obtain ⟨H3, hr3, hh3⟩ := HS.out wd _ hHd (.int .i64 (r2 + 1))
            have hl3 : (ys ++ [(r1, r2 + 1)]).length = m + 1 := by simp [hm]
            rw [← hm, runC_last] at hr3
            go_roundw
            case rel => exact ⟨k + 1, H3, by omega, by go_num, by rw [HE.out]; unfold IsR22; rw [hl3]; rw [hm] at hr3; exact hr3, hm ▸ hh3, hGd.setCell _ _⟩
            case measure => simp [intOf]; omega
          · have HE : Hid (runsU (s.take (k + 1)) = (ys ++ [(r1, r2)]) ++ [(a, 1)]) := Lib.hid (by
              rw [HST.out]; unfold runStep; rw [hrl]
              have h1 : ¬ (r1 + r2) % 18446744073709551616 = a := by omega
              simp only [h1, if_false])
            have hb2 : (a == y + 1) = false := by simpa using hc
            have hww : IntKind.u64.wrap (y + 1) = y + 1 := by rw [IntKind.wrap_u64]; omega
            clear HST hrl hc hly
            go_upto_region 7 with fail
            refine Z_begin (fun wx => wx.cell? ⟨b, o + k, none⟩ = some (.int .u64 a) ∧ wx.cell? ⟨b, o + (k - 1), none⟩ = some (.int .u64 y)) 15 (by kernel_rfl) (fun w1 hd => by obtain ⟨q, rfl⟩ := hd; exact ⟨ca, d0⟩) (fun w1 hd hs => ?_)
            obtain ⟨nq, rfl⟩ := hd
            refine Z_takeD 0 (some 17) (v := ?_) rfl rfl (by kernel_rfl) (fun _ _ _ h => h) (by rfl) hs ?_ ?_
            rotate_left
            · intro wx hx; obtain ⟨s1, s2⟩ := hx; go_simp; try with_reducible rfl
            simp only [Act.put, List.setIfInBounds_toArray, List.set_cons_succ, List.set_cons_zero]
            refine Z_takeD 1 (some 18) (v := ?_) rfl rfl (by kernel_rfl) (fun _ _ _ h => h) (by rfl) hs ?_ ?_
            rotate_left
            · intro wx hx; obtain ⟨s1, s2⟩ := hx; go_simp; try with_reducible rfl
            simp only [Act.put, List.setIfInBounds_toArray, List.set_cons_succ, List.set_cons_zero]
            refine Z_takeD 2 (some 19) (v := ?_) rfl rfl (by kernel_rfl) (fun _ _ _ h => h) (by rfl) hs ?_ ?_
            rotate_left
            · intro wx hx; obtain ⟨s1, s2⟩ := hx; go_simp; try with_reducible rfl
            simp only [Act.put, List.setIfInBounds_toArray, List.set_cons_succ, List.set_cons_zero]
            refine Z_takeD 3 (some 20) (v := ?_) rfl rfl (by kernel_rfl) (fun _ _ _ h => h) (by rfl) hs ?_ ?_
            rotate_left
            · intro wx hx; obtain ⟨s1, s2⟩ := hx; go_simp; try with_reducible rfl
            simp only [Act.put, List.setIfInBounds_toArray, List.set_cons_succ, List.set_cons_zero]
            refine Z_takeD 4 (some 21) (v := ?_) rfl rfl (by kernel_rfl) (fun _ _ _ h => h) (by rfl) hs ?_ ?_
            rotate_left
            · intro wx hx; obtain ⟨s1, s2⟩ := hx; go_simp; try with_reducible rfl
            simp only [Act.put, List.setIfInBounds_toArray, List.set_cons_succ, List.set_cons_zero]
            refine Z_takeD 5 (some 22) (v := ?_) rfl rfl (by kernel_rfl) (fun _ _ _ h => h) (by rfl) hs ?_ ?_
            rotate_left
            · intro wx hx; obtain ⟨s1, s2⟩ := hx; go_simp; try with_reducible rfl
            simp only [Act.put, List.setIfInBounds_toArray, List.set_cons_succ, List.set_cons_zero]
            refine Z_takeD 6 (some 23) (v := ?_) rfl rfl (by kernel_rfl) (fun _ _ _ h => h) (by rfl) hs ?_ ?_
            rotate_left
            · intro wx hx; obtain ⟨s1, s2⟩ := hx; go_simp; try with_reducible rfl
            simp only [Act.put, List.setIfInBounds_toArray, List.set_cons_succ, List.set_cons_zero]
            refine Z_takeD 7 (some 24) (v := ?_) rfl rfl (by kernel_rfl) (fun _ _ _ h => h) (by rfl) hs ?_ ?_
            rotate_left
            · intro wx hx; obtain ⟨s1, s2⟩ := hx; go_simp; try with_reducible rfl
            simp only [Act.put, List.setIfInBounds_toArray, List.set_cons_succ, List.set_cons_zero]
            refine Z_takeD 8 (some 25) (v := ?_) rfl rfl (by kernel_rfl) (fun _ _ _ h => h) (by rfl) hs ?_ ?_
            rotate_left
            · intro wx hx; obtain ⟨s1, s2⟩ := hx; go_simp; try with_reducible rfl
            simp only [Act.put, List.setIfInBounds_toArray, List.set_cons_succ, List.set_cons_zero]
            refine Z_takeD 9 (some 26) (v := ?_) rfl rfl (by kernel_rfl) (fun _ _ _ h => h) (by rfl) hs ?_ ?_
            rotate_left
            · intro wx hx; obtain ⟨s1, s2⟩ := hx; go_simp; try with_reducible rfl
            simp only [Act.put, List.setIfInBounds_toArray, List.set_cons_succ, List.set_cons_zero]
            refine Z_takeD 10 (some 27) (v := ?_) rfl rfl (by kernel_rfl) (fun _ _ _ h => h) (by rfl) hs ?_ ?_
            rotate_left
            · intro wx hx; obtain ⟨s1, s2⟩ := hx; go_simp; try with_reducible rfl
            simp only [Act.put, List.setIfInBounds_toArray, List.set_cons_succ, List.set_cons_zero]
            refine Z_takeD 11 (some 28) (v := ?_) rfl rfl (by kernel_rfl) (fun _ _ _ h => h) (by rfl) hs ?_ ?_
            rotate_left
            · intro wx hx; obtain ⟨s1, s2⟩ := hx; go_simp; try with_reducible rfl
            simp only [Act.put, List.setIfInBounds_toArray, List.set_cons_succ, List.set_cons_zero]
            refine Z_takeD 12 (some 29) (v := ?_) rfl rfl (by kernel_rfl) (fun _ _ _ h => h) (by rfl) hs ?_ ?_
            rotate_left
            · intro wx hx; obtain ⟨s1, s2⟩ := hx; go_simp; try with_reducible rfl
            simp only [Act.put, List.setIfInBounds_toArray, List.set_cons_succ, List.set_cons_zero]
            refine Z_takeD 13 (some 30) (v := ?_) rfl rfl (by kernel_rfl) (fun _ _ _ h => h) (by rfl) hs ?_ ?_
            rotate_left
            · intro wx hx; obtain ⟨s1, s2⟩ := hx; go_simp; try with_reducible rfl
            simp only [Act.put, List.setIfInBounds_toArray, List.set_cons_succ, List.set_cons_zero]
            refine Z_takeD 14 (some 31) (v := ?_) rfl rfl (by kernel_rfl) (fun _ _ _ h => h) (by rfl) hs ?_ ?_
            rotate_left
            · intro wx hx; obtain ⟨s1, s2⟩ := hx; go_simp; try with_reducible rfl
            simp only [Act.put, List.setIfInBounds_toArray, List.set_cons_succ, List.set_cons_zero]
            refine Z_done (by kernel_rfl) ?_ _
            go_wp2_with (at_builtin; refine wpList_append_T tR22 (by rfl) (.tmp 41) (.tmp 47) (by rfl) (by rfl) (by rfl) HR'.out ((hHr.drewN nq).alloc' _) (ReadsAt.many (w := wr.drewN nq) (n := 1) (size := 2) (cs := #[.int .u64 a, .int .i64 1]) (by rfl) (by simp [maxLen])) (by simp [Value.oneCell']) (by simp [maxLen]; omega) (by omega) ?_; intro A' c' w' H' hrow hH3 hg3)
            have hl3 : (ys ++ [(r1, r2)] ++ [(a, 1)]).length = m + 1 + 1 := by simp [hm]
            go_roundw
            case rel => exact ⟨k + 1, H', by omega, by go_num, by rw [HE.out]; unfold IsR22; rw [hl3, List.flatMap_append]; exact hrow, hH3, ((hgr.drewN nq).alloc _).trans hg3⟩
            case measure => simp [intOf]; omega
    · have hkl : k = s.length := by omega
      subst hkl
      rw [List.take_of_length_le (Nat.le_refl _)] at HR ⊢
      clear hr
      go_wp2_with fail
      go_ret
      exact ⟨_, H, rfl, HR.out, hHr.sub (by (repeat' (first | refine sub_append ?_ ?_ | refine sub_cons ?_ ?_ | exact sub_nil)); all_goals first | (intro p hp; simp only [List.mem_append, List.mem_cons, hp, true_or, or_true]) | simp only [List.mem_append, List.mem_cons, true_or, or_true]) (fun b => by simp only [keyc_append, keyc_cons, keyc_nil]; omega), hgr⟩
end Go.Proofs.Ytdbcmjambajffaa
