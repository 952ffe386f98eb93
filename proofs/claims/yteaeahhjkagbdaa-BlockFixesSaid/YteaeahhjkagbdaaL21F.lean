/-
  BlockFixes: the walk.
-/
import Derived.Test.YteaeahhjkagbdaaL21
namespace Go.Proofs.Yteaeahhjkagbdaa
open Go.RowKit
set_option linter.unusedVariables false

theorem write_also {m : BM} {i : Int} {b : List UInt8} {c : Int} (ht : m.there i = true) (hl : (b.length : Int) = m.size) (hg : m.given = false) (hc : c = 4 ∨ c = 5 ∨ c = 7) : m.write i b c [] = (true, m.also i b) := by
  rcases hc with rfl | rfl | rfl <;> simp [BM.write, ht, hl, hg]
theorem write_given {m : BM} {i : Int} {b : List UInt8} (ht : m.there i = true) (hl : (b.length : Int) = m.size) : m.write i b 11 [] = (true, { m with given := true }) := by
  simp [BM.write, ht, hl]
theorem write_after {m : BM} {i : Int} {b : List UInt8} (ht : m.there i = true) (hl : (b.length : Int) = m.size) (hg : m.given = true) : m.write i b 0 [] = (false, m) := by
  simp [BM.write, ht, hl, hg]
theorem put_size (m : BM) (i : Int) (l) : (m.put i l).size = m.size := rfl
theorem put_given (m : BM) (i : Int) (l) : (m.put i l).given = m.given := rfl
theorem put_put (m : BM) (i : Int) (l l') : (m.put i l).put i l' = m.put i l' := by simp [BM.put]

/-- what is told and asked in BlockFixes, behind the two writes: one list of what may be there, and one or the other block -/
def Mk (i : Int) (l : List (List UInt8)) : BM := (BM.new 9 128).put i l
section
variable {i : Int} {l : List (List UInt8)} {b : List UInt8}
theorem mk_there (h0 : 0 ≤ i) (h1 : i < 9) : (Mk i l).there i = true := by unfold Mk; rw [put_there, new_there]; simpa using ⟨h0, h1⟩
theorem mk_can (h0 : 0 ≤ i) (h1 : i < 9) : (Mk i l).can i b = decide (b ∈ l) := can_put (by rw [new_there]; simpa using ⟨h0, h1⟩)
theorem mk_at (h0 : 0 ≤ i) (h1 : i < 9) : (Mk i l).at_ i = l := put_at _ _ _ (by rw [new_there]; simpa using ⟨h0, h1⟩)
theorem mk_put (l') : (Mk i l).put i l' = Mk i l' := put_put _ _ _ _
theorem mk_read_yes (h0 : 0 ≤ i) (h1 : i < 9) (h : b ∈ l) : (Mk i l).read i 0 b = (true, Mk i [b]) := by rw [read_ok (by rw [mk_can h0 h1]; simpa using h), mk_put]
theorem mk_read_no (h0 : 0 ≤ i) (h1 : i < 9) (h : b ∉ l) : (Mk i l).read i 0 b = (false, Mk i l) := read_no (mk_there h0 h1) (by rw [mk_can h0 h1]; simpa using h) rfl
theorem mk_write (h0 : 0 ≤ i) (h1 : i < 9) (h : b.length = 128) : (Mk i l).write i b 0 [] = (true, Mk i [b]) := by rw [write_ok (mk_there h0 h1) (by rw [h]; rfl) rfl, mk_put]
theorem mk_also (h0 : 0 ≤ i) (h1 : i < 9) (h : b.length = 128) (hn : b ∉ l) {c : Int} (hc : c = 4 ∨ c = 5 ∨ c = 7) : (Mk i l).write i b c [] = (true, Mk i (l ++ [b])) := by
  rw [write_also (mk_there h0 h1) (by rw [h]; rfl) rfl hc, BM.also, mk_can h0 h1, mk_at h0 h1, if_neg (by simpa using hn), mk_put]
theorem mk_after (h0 : 0 ≤ i) (h1 : i < 9) (h : b.length = 128) : (BM.mk (Mk i l).size (Mk i l).may true).write i b 0 [] = (false, BM.mk (Mk i l).size (Mk i l).may true) := write_after (mk_there (l := l) h0 h1) (by rw [h]; rfl) rfl
theorem mk_sure2 (h0 : 0 ≤ i) (h1 : i < 9) (h : l.length ≠ 1) : (Mk i l).sure i = none := by
  simp [BM.sure, mk_at h0 h1, h]
end

/-- three codes -/
theorem code3 (k : Nat) (h : k < 3) : ∃ c : Int, (#[Value.int .i64 4, .int .i64 5, .int .i64 7])[k]? = some (.int .i64 c) ∧ (c = 4 ∨ c = 5 ∨ c = 7) := by
  match k, h with
  | 0, _ => exact ⟨4, rfl, by simp⟩
  | 1, _ => exact ⟨5, rfl, by simp⟩
  | 2, _ => exact ⟨7, rfl, by simp⟩

set_option maxRecDepth 100000 in
set_option maxHeartbeats 4000000 in
theorem fixes_walk (at_ a b : Int) (second : Bool) (code : Int) (w : World) :
    Calls Try.prog 4 #[.int .i64 at_, .int .i64 a, .int .i64 b, .bool second, .int .i64 code] w (RetFr (.bool true) w (allOf w)) := by
  have hH := holds_all w
  generalize allOf w = Fr at *
  go_enter Try.func4, Try.ntmps4
  go_wp2_with fail
  refine (bnew_good 9 128 Fr w hH (by omega) (by omega) (by omega) (by omega)).mono ?_
  rintro e w1 ⟨v1, H1, rfl, hm1, hH1, hg1⟩
  obtain ⟨p, rfl⟩ := hm1.ptr
  have HM1 := Lib.hid hm1; clear hm1
  go_wp2_with fail
  refine (low_any at_ 9 w1 (by omega) (by omega)).mono ?_
  rintro e w' ⟨rfl, rfl⟩
  have hi := low_bd at_ 9 (by omega) (by omega)
  generalize lowI at_ 9 = i at *
  have HI := Lib.hid hi; clear hi
  go_wp2_with fail
  refine (fill_any a 128 w1 _ hH1 (by omega)).mono ?_
  rintro e w2 ⟨vx, Hx, rfl, hbx, hH2, hg2⟩
  have hlx : (fillL a 128).length = 128 := fill_len a 128 (by omega)
  generalize fillL a 128 = x at *
  obtain ⟨Ax, cx, rfl⟩ := hbx.val
  have HX := Lib.hid hbx; clear hbx
  have HLX := Lib.hid hlx; clear hlx
  go_wp2_with fail
  refine (fill_any b 128 w2 _ hH2 (by omega)).mono ?_
  rintro e w3 ⟨vy, Hy, rfl, hby, hH3, hg3⟩
  have hly : (fillL b 128).length = 128 := fill_len b 128 (by omega)
  generalize fillL b 128 = y at *
  obtain ⟨Ay, cy, rfl⟩ := hby.val
  have HY := Lib.hid hby; clear hby
  have HLY := Lib.hid hly; clear hly
  have hG3 := (hg1.trans hg2).trans hg3
  clear hg1 hg2 hg3 hH2 hH1
  go_wp2_with fail
  have hH4 := hH3.alloc (.cells #[.int .i64 4, .int .i64 5, .int .i64 7] 28)
  have hG4 := hG3.alloc (.cells #[.int .i64 4, .int .i64 5, .int .i64 7] 28)
  generalize hw4 : w3.alloc (.cells #[.int .i64 4, .int .i64 5, .int .i64 7] 28) = w4 at *
  generalize w3.heap.size = g at *
  clear hw4 hH3 hG3
  have hFX : FrBytes (Hy ++ (Hx ++ Fr)) (.slice Ax x.length cx) x := FrBytes.right (FrBytes.left (fun wx hx => HX.out.at_ (Fr := []) (by simpa using hx)))
  have hFY : FrBytes (Hy ++ (Hx ++ Fr)) (.slice Ay y.length cy) y := FrBytes.left (fun wx hx => HY.out.at_ (Fr := []) (by simpa using hx))
  have hF : ∀ wx : World, Holds wx ((g, .cells #[.int .i64 4, .int .i64 5, .int .i64 7] 28) :: (Hy ++ (Hx ++ Fr))) → Holds wx Fr := fun wx hx => Holds.right (A := [_]) hx |>.right |>.right
  generalize hFF : Hy ++ (Hx ++ Fr) = F0 at *
  have hH5 : Holds w4 (H1 ++ ((g, .cells #[.int .i64 4, .int .i64 5, .int .i64 7] 28) :: F0)) := by subst hFF; exact hH4.sub (fun p hp => by simp only [List.mem_append, List.mem_cons, List.not_mem_nil, or_false] at hp ⊢; grind) (fun b => by simp only [keyc_append, keyc_cons, keyc_nil]; omega)
  clear hFF hH4 hH
  have HF := Lib.hid hF; clear hF
  have HFX := Lib.hid hFX; clear hFX
  have HFY := Lib.hid hFY; clear hFY
  have hsm := same_any _ _ x y w4 (HFX.out w4 (Holds.right (A := [_]) hH5.right)) (HFY.out w4 (Holds.right (A := [_]) hH5.right))
  by_cases hxy : x = y
  · rw [decide_eq_true hxy] at hsm
    clear hxy
    refine hsm.mono ?_
    rintro e w5 ⟨rfl, q, rfl⟩
    clear hsm
    go_wp2_with fail
    refine (awake_any _ _ (hH5.right.drewN q)).mono ?_
    rintro e w6 ⟨rfl, hH6, hg6⟩
    go_wp2
    go_ret
    exact ⟨rfl, HF.out _ hH6, (hG4.drewN q).trans hg6⟩
  · rw [decide_eq_false hxy] at hsm
    have HXY := Lib.hid hxy; clear hxy
    refine hsm.mono ?_
    rintro e w5 ⟨rfl, q, rfl⟩
    clear hsm
    have hH6 := hH5.drewN q
    have hG6 := hG4.drewN q
    generalize w4.drewN q = w6 at *
    clear hH5 hG4
    have hmt : (BM.new 9 128).there i = true := by rw [new_there]; simpa using HI.out
    have HMT := Lib.hid hmt; clear hmt
    go_wp2_with fail
    have hc := bwrite_none _ _ H1 _ i (.slice Ax x.length cx) x 0 none 0 w6 HM1.out hH6 (FrBytes.right (A := [_]) HFX.out) (by rw [new_at _ _ _ HI.out.1 (by exact_mod_cast HI.out.2)]; simp)
    rw [show (BM.new 9 128).write i x 0 [] = (true, Mk i [x]) from write_ok HMT.out (by rw [HLX.out]; rfl) rfl] at hc
    refine hc.mono ?_
    rintro e w7 ⟨rfl, J7, hm7, hH7, hg7⟩
    have hG7 := hG6.trans hg7
    have HM7 := Lib.hid hm7
    clear hm7 hg7 hc hH6 hG6 HM1
    go_wp2_with fail
    refine (low_any code 3 w7 (by omega) (by omega)).mono ?_
    rintro e w' ⟨rfl, rfl⟩
    have hk := low_bd code 3 (by omega) (by omega)
    generalize lowI code 3 = k0 at *
    obtain ⟨k, rfl⟩ := Int.eq_ofNat_of_zero_le hk.1
    obtain ⟨cd, hcd, hcd3⟩ := code3 k (by omega)
    have hcell : w7.cell? ⟨g, k, none⟩ = some (.int .i64 cd) := by
      rw [Holds.hcell (H := F0) hH7.right k]
      exact hcd
    have HCD := Lib.hid hcd3
    have hk3 : k < 3 := by omega
    clear hcd hcd3 hk
    go_wp2_with fail
    have hc := bwrite_none _ _ J7 _ i (.slice Ay y.length cy) y cd none 0 w7 HM7.out hH7 (FrBytes.right (A := [_]) HFY.out) (by rw [mk_at HI.out.1 HI.out.2]; simp)
    rw [mk_also HI.out.1 HI.out.2 HLY.out (by simpa using fun e => HXY.out e.symm) HCD.out] at hc
    refine hc.mono ?_
    rintro e w8 ⟨rfl, J8, hm8, hH8, hg8⟩
    have hG8 := hG7.trans hg8
    have HM8 := Lib.hid hm8
    clear hm8 hg8 hc hH7 hG7 HM7
    clear hcell
    go_wp2_with fail
    have hc := can_any _ _ J8 _ i (.slice Ax x.length cx) x w8 HM8.out hH8 (HFX.out _ (Holds.right (A := [_]) (Holds.right hH8)))
    rw [mk_can HI.out.1 HI.out.2, decide_eq_true (by simp)] at hc
    refine hc.mono ?_
    rintro e w9 ⟨rfl, q9, rfl⟩
    have hH9 := hH8.drewN q9
    have hG9 := hG8.drewN q9
    generalize w8.drewN q9 = w9 at *
    clear hc hH8 hG8
    go_wp2_with fail
    have hc := can_any _ _ J8 _ i (.slice Ay y.length cy) y w9 HM8.out hH9 (HFY.out _ (Holds.right (A := [_]) (Holds.right hH9)))
    rw [mk_can HI.out.1 HI.out.2, decide_eq_true (by simp)] at hc
    refine hc.mono ?_
    rintro e w10 ⟨rfl, q10, rfl⟩
    have hH10 := hH9.drewN q10
    have hG10 := hG9.drewN q10
    generalize w9.drewN q10 = w10 at *
    clear hc hH9 hG9
    go_wp2_with fail
    have hc := bsure_any _ _ J8 _ i w10 HM8.out hH10 (by rw [mk_at HI.out.1 HI.out.2]; intro s hs; simp at hs; rcases hs with rfl | rfl; rw [HLX.out]; omega; rw [HLY.out]; omega)
    rw [mk_sure2 HI.out.1 HI.out.2 (by simp)] at hc
    refine hc.mono ?_
    rintro e w11 ⟨vs, Hs, rfl, hbs, hH11, hg11⟩
    have hH12 := hH11.right
    have hG12 := hG10.trans hg11
    clear hc hbs hH11 hg11 hH10 hG10
    generalize w11 = w12 at *
    cases second
    · have hHa := (hH12.alloc (.cells #[.int .i64 0, .slice Ax x.length cx] 35)).alloc (.cells #[.int .i64 0, .slice Ay y.length cy] 35)
      have hGa := (hG12.alloc (.cells #[.int .i64 0, .slice Ax x.length cx] 35)).alloc (.cells #[.int .i64 0, .slice Ay y.length cy] 35)
      rw [World.size_alloc] at hHa
      go_wp2_with fail
      generalize (w12.alloc (.cells #[.int .i64 0, .slice Ax x.length cx] 35)).alloc (.cells #[.int .i64 0, .slice Ay y.length cy] 35) = w13 at *
      generalize w12.heap.size = t at *
      have hH13 : Holds w13 (J8 ++ ((t + 1, .cells #[.int .i64 0, .slice Ay y.length cy] 35) :: (t, .cells #[.int .i64 0, .slice Ax x.length cx] 35) :: ((g, .cells #[.int .i64 4, .int .i64 5, .int .i64 7] 28) :: F0))) := hHa.sub (fun p hp => by simp only [List.mem_append, List.mem_cons, List.not_mem_nil, or_false] at hp ⊢; grind) (fun b => by simp only [keyc_append, keyc_cons, keyc_nil]; omega)
      have hG13 := hGa
      clear hHa hGa hH12 hG12
      have d0 := (Holds.right (A := [_]) hH13.right).hcell 0
      have d1 := (Holds.right (A := [_]) hH13.right).hcell 1
      have d2 := hH13.right.hcell 0
      have d3 := hH13.right.hcell 1
      simp only [List.getElem?_toArray, List.getElem?_cons_zero, List.getElem?_cons_succ] at d0 d1 d2 d3
      have hc := bread_any _ _ J8 _ i 0 (.slice Ax x.length cx) x w13 HM8.out hH13 (FrBytes.right (A := [_, _, _]) HFX.out)
      rw [mk_read_yes HI.out.1 HI.out.2 (by simp)] at hc
      refine hc.mono ?_
      rintro e w14 ⟨rfl, J14, hm14, hH14, hg14⟩
      have hG14 := hG13.trans hg14
      have HM14 := Lib.hid hm14
      clear hm14 hg14 hc hH13 hG13 HM8
      clear d0 d1 d2 d3
      have d0 := (Holds.right (A := [_]) hH14.right).hcell 0
      have d1 := (Holds.right (A := [_]) hH14.right).hcell 1
      have d2 := hH14.right.hcell 0
      have d3 := hH14.right.hcell 1
      simp only [List.getElem?_toArray, List.getElem?_cons_zero, List.getElem?_cons_succ] at d0 d1 d2 d3
      go_wp2_with fail
      have hc := bread_any _ _ J14 _ i 0 (.slice Ay y.length cy) y w14 HM14.out hH14 (FrBytes.right (A := [_, _, _]) HFY.out)
      rw [mk_read_no HI.out.1 HI.out.2 (by simpa using fun e => HXY.out e.symm)] at hc
      refine hc.mono ?_
      rintro e w15 ⟨rfl, J15, hm15, hH15, hg15⟩
      have hG15 := hG14.trans hg15
      have HM15 := Lib.hid hm15
      clear hm15 hg15 hc hH14 hG14 HM14
      clear d0 d1 d2 d3
      have d0 := (Holds.right (A := [_]) hH15.right).hcell 0
      have d1 := (Holds.right (A := [_]) hH15.right).hcell 1
      have d2 := hH15.right.hcell 0
      have d3 := hH15.right.hcell 1
      simp only [List.getElem?_toArray, List.getElem?_cons_zero, List.getElem?_cons_succ] at d0 d1 d2 d3
      go_wp2_with fail
      have hc := bread_any _ _ J15 _ i 0 (.slice Ax x.length cx) x w15 HM15.out hH15 (FrBytes.right (A := [_, _, _]) HFX.out)
      rw [mk_read_yes HI.out.1 HI.out.2 (by simp)] at hc
      refine hc.mono ?_
      rintro e w16 ⟨rfl, J16, hm16, hH16, hg16⟩
      have hG16 := hG15.trans hg16
      have HM16 := Lib.hid hm16
      clear hm16 hg16 hc hH15 hG15 HM15
      clear d0 d1 d2 d3
      have d0 := (Holds.right (A := [_]) hH16.right).hcell 0
      have d1 := (Holds.right (A := [_]) hH16.right).hcell 1
      have d2 := hH16.right.hcell 0
      have d3 := hH16.right.hcell 1
      simp only [List.getElem?_toArray, List.getElem?_cons_zero, List.getElem?_cons_succ] at d0 d1 d2 d3
      go_wp2_with fail
      have hc := bwrite_none _ _ J16 _ i (.slice Ay y.length cy) y 0 none 0 w16 HM16.out hH16 (FrBytes.right (A := [_, _, _]) HFY.out) (by rw [mk_at HI.out.1 HI.out.2]; simp)
      rw [mk_write HI.out.1 HI.out.2 HLY.out] at hc
      refine hc.mono ?_
      rintro e w17 ⟨rfl, J17, hm17, hH17, hg17⟩
      have hG17 := hG16.trans hg17
      have HM17 := Lib.hid hm17
      clear hm17 hg17 hc hH16 hG16 HM16
      clear d0 d1 d2 d3
      have d0 := (Holds.right (A := [_]) hH17.right).hcell 0
      have d1 := (Holds.right (A := [_]) hH17.right).hcell 1
      have d2 := hH17.right.hcell 0
      have d3 := hH17.right.hcell 1
      simp only [List.getElem?_toArray, List.getElem?_cons_zero, List.getElem?_cons_succ] at d0 d1 d2 d3
      go_wp2_with fail
      have hc := bread_any _ _ J17 _ i 0 (.slice Ay y.length cy) y w17 HM17.out hH17 (FrBytes.right (A := [_, _, _]) HFY.out)
      rw [mk_read_yes HI.out.1 HI.out.2 (by simp)] at hc
      refine hc.mono ?_
      rintro e w18 ⟨rfl, J18, hm18, hH18, hg18⟩
      have hG18 := hG17.trans hg18
      have HM18 := Lib.hid hm18
      clear hm18 hg18 hc hH17 hG17 HM17
      clear d0 d1 d2 d3
      have d0 := (Holds.right (A := [_]) hH18.right).hcell 0
      have d1 := (Holds.right (A := [_]) hH18.right).hcell 1
      have d2 := hH18.right.hcell 0
      have d3 := hH18.right.hcell 1
      simp only [List.getElem?_toArray, List.getElem?_cons_zero, List.getElem?_cons_succ] at d0 d1 d2 d3
      go_wp2_with fail
      have hc := bread_any _ _ J18 _ i 0 (.slice Ax x.length cx) x w18 HM18.out hH18 (FrBytes.right (A := [_, _, _]) HFX.out)
      rw [mk_read_no HI.out.1 HI.out.2 (by simpa using fun e => HXY.out e)] at hc
      refine hc.mono ?_
      rintro e w19 ⟨rfl, J19, hm19, hH19, hg19⟩
      have hG19 := hG18.trans hg19
      have HM19 := Lib.hid hm19
      clear hm19 hg19 hc hH18 hG18 HM18
      clear d0 d1 d2 d3
      have d0 := (Holds.right (A := [_]) hH19.right).hcell 0
      have d1 := (Holds.right (A := [_]) hH19.right).hcell 1
      have d2 := hH19.right.hcell 0
      have d3 := hH19.right.hcell 1
      simp only [List.getElem?_toArray, List.getElem?_cons_zero, List.getElem?_cons_succ] at d0 d1 d2 d3
      go_wp2_with fail
      have hc := bwrite_none _ _ J19 _ i (.slice Ax x.length cx) x 11 none 0 w19 HM19.out hH19 (FrBytes.right (A := [_, _, _]) HFX.out) (by rw [mk_at HI.out.1 HI.out.2]; simp)
      rw [write_given (mk_there HI.out.1 HI.out.2) (by rw [HLX.out]; rfl)] at hc
      refine hc.mono ?_
      rintro e w20 ⟨rfl, J20, hm20, hH20, hg20⟩
      have hG20 := hG19.trans hg20
      have HM20 := Lib.hid hm20
      clear hm20 hg20 hc hH19 hG19 HM19
      clear d0 d1 d2 d3
      have d0 := (Holds.right (A := [_]) hH20.right).hcell 0
      have d1 := (Holds.right (A := [_]) hH20.right).hcell 1
      have d2 := hH20.right.hcell 0
      have d3 := hH20.right.hcell 1
      simp only [List.getElem?_toArray, List.getElem?_cons_zero, List.getElem?_cons_succ] at d0 d1 d2 d3
      go_wp2_with fail
      have hc := bgiven_any _ _ J20 _ w20 HM20.out hH20
      refine hc.mono ?_
      rintro e w' ⟨rfl, rfl⟩
      clear hc
      go_wp2_with fail
      have hc := bwrite_none _ _ J20 _ i (.slice Ax x.length cx) x 0 none 0 w20 HM20.out hH20 (FrBytes.right (A := [_, _, _]) HFX.out) (by show (BM.at_ (Mk i _) i).length ≤ _; rw [mk_at HI.out.1 HI.out.2]; simp)
      rw [mk_after HI.out.1 HI.out.2 HLX.out] at hc
      refine hc.mono ?_
      rintro e w21 ⟨rfl, J21, hm21, hH21, hg21⟩
      have hG21 := hG20.trans hg21
      have HM21 := Lib.hid hm21
      clear hm21 hg21 hc hH20 hG20 HM20
      clear d0 d1 d2 d3
      have d0 := (Holds.right (A := [_]) hH21.right).hcell 0
      have d1 := (Holds.right (A := [_]) hH21.right).hcell 1
      have d2 := hH21.right.hcell 0
      have d3 := hH21.right.hcell 1
      simp only [List.getElem?_toArray, List.getElem?_cons_zero, List.getElem?_cons_succ] at d0 d1 d2 d3
      go_wp2_with fail
      refine (bread_nil 0 _ 0 (.slice Ax x.length cx) w21 rfl).mono ?_
      rintro e w22 ⟨rfl, rfl⟩
      have hH22 := hH21.alloc' (.cells #[.int .i64 0, .slice Ax x.length cx] 35)
      have hG22 := hG21.alloc (.cells #[.int .i64 0, .slice Ax x.length cx] 35)
      generalize w21.alloc (.cells #[.int .i64 0, .slice Ax x.length cx] 35) = w22 at *
      clear hH21 hG21 d0 d1 d2 d3
      have d0 := (Holds.right (A := [_]) hH22.right).hcell 0
      have d1 := (Holds.right (A := [_]) hH22.right).hcell 1
      have d2 := hH22.right.hcell 0
      have d3 := hH22.right.hcell 1
      simp only [List.getElem?_toArray, List.getElem?_cons_zero, List.getElem?_cons_succ] at d0 d1 d2 d3
      go_wp2_with fail
      refine (bwrite_nil 0 _ _ 0 (.slice Ax x.length cx) w22 rfl).mono ?_
      rintro e w23 ⟨rfl, rfl⟩
      have hH23 := hH22.alloc' (.cells #[.int .i64 0, .slice Ax x.length cx] 35)
      have hG23 := hG22.alloc (.cells #[.int .i64 0, .slice Ax x.length cx] 35)
      generalize w22.alloc (.cells #[.int .i64 0, .slice Ax x.length cx] 35) = w23 at *
      clear hH22 hG22 d0 d1 d2 d3
      have d0 := (Holds.right (A := [_]) hH23.right).hcell 0
      have d1 := (Holds.right (A := [_]) hH23.right).hcell 1
      have d2 := hH23.right.hcell 0
      have d3 := hH23.right.hcell 1
      simp only [List.getElem?_toArray, List.getElem?_cons_zero, List.getElem?_cons_succ] at d0 d1 d2 d3
      go_wp2_with fail
      have hc := bcan_nil 0 (.slice Ax x.length cx) w23
      refine hc.mono ?_
      rintro e w24 ⟨rfl, q24, rfl⟩
      have hH24 := hH23.drewN q24
      have hG24 := hG23.drewN q24
      generalize w23.drewN q24 = w24 at *
      clear hc hH23 hG23
      clear d0 d1 d2 d3
      go_wp2_with fail
      refine (bgiven_nil w24).mono ?_
      rintro e w' ⟨rfl, rfl⟩
      go_wp2_with fail
      refine (awake_any _ _ (Holds.right (A := [_, _]) hH24.right)).mono ?_
      rintro e w25 ⟨rfl, hHz, hgz⟩
      go_wp2
      go_ret
      exact ⟨rfl, HF.out _ hHz, hG24.trans hgz⟩
    · have hHa := (hH12.alloc (.cells #[.int .i64 0, .slice Ay y.length cy] 35)).alloc (.cells #[.int .i64 0, .slice Ax x.length cx] 35)
      have hGa := (hG12.alloc (.cells #[.int .i64 0, .slice Ay y.length cy] 35)).alloc (.cells #[.int .i64 0, .slice Ax x.length cx] 35)
      rw [World.size_alloc] at hHa
      go_wp2_with fail
      generalize (w12.alloc (.cells #[.int .i64 0, .slice Ay y.length cy] 35)).alloc (.cells #[.int .i64 0, .slice Ax x.length cx] 35) = w13 at *
      generalize w12.heap.size = t at *
      have hH13 : Holds w13 (J8 ++ ((t + 1, .cells #[.int .i64 0, .slice Ax x.length cx] 35) :: (t, .cells #[.int .i64 0, .slice Ay y.length cy] 35) :: ((g, .cells #[.int .i64 4, .int .i64 5, .int .i64 7] 28) :: F0))) := hHa.sub (fun p hp => by simp only [List.mem_append, List.mem_cons, List.not_mem_nil, or_false] at hp ⊢; grind) (fun b => by simp only [keyc_append, keyc_cons, keyc_nil]; omega)
      have hG13 := hGa
      clear hHa hGa hH12 hG12
      have d0 := (Holds.right (A := [_]) hH13.right).hcell 0
      have d1 := (Holds.right (A := [_]) hH13.right).hcell 1
      have d2 := hH13.right.hcell 0
      have d3 := hH13.right.hcell 1
      simp only [List.getElem?_toArray, List.getElem?_cons_zero, List.getElem?_cons_succ] at d0 d1 d2 d3
      have hc := bread_any _ _ J8 _ i 0 (.slice Ay y.length cy) y w13 HM8.out hH13 (FrBytes.right (A := [_, _, _]) HFY.out)
      rw [mk_read_yes HI.out.1 HI.out.2 (by simp)] at hc
      refine hc.mono ?_
      rintro e w14 ⟨rfl, J14, hm14, hH14, hg14⟩
      have hG14 := hG13.trans hg14
      have HM14 := Lib.hid hm14
      clear hm14 hg14 hc hH13 hG13 HM8
      clear d0 d1 d2 d3
      have d0 := (Holds.right (A := [_]) hH14.right).hcell 0
      have d1 := (Holds.right (A := [_]) hH14.right).hcell 1
      have d2 := hH14.right.hcell 0
      have d3 := hH14.right.hcell 1
      simp only [List.getElem?_toArray, List.getElem?_cons_zero, List.getElem?_cons_succ] at d0 d1 d2 d3
      go_wp2_with fail
      have hc := bread_any _ _ J14 _ i 0 (.slice Ax x.length cx) x w14 HM14.out hH14 (FrBytes.right (A := [_, _, _]) HFX.out)
      rw [mk_read_no HI.out.1 HI.out.2 (by simpa using fun e => HXY.out e)] at hc
      refine hc.mono ?_
      rintro e w15 ⟨rfl, J15, hm15, hH15, hg15⟩
      have hG15 := hG14.trans hg15
      have HM15 := Lib.hid hm15
      clear hm15 hg15 hc hH14 hG14 HM14
      clear d0 d1 d2 d3
      have d0 := (Holds.right (A := [_]) hH15.right).hcell 0
      have d1 := (Holds.right (A := [_]) hH15.right).hcell 1
      have d2 := hH15.right.hcell 0
      have d3 := hH15.right.hcell 1
      simp only [List.getElem?_toArray, List.getElem?_cons_zero, List.getElem?_cons_succ] at d0 d1 d2 d3
      go_wp2_with fail
      have hc := bread_any _ _ J15 _ i 0 (.slice Ay y.length cy) y w15 HM15.out hH15 (FrBytes.right (A := [_, _, _]) HFY.out)
      rw [mk_read_yes HI.out.1 HI.out.2 (by simp)] at hc
      refine hc.mono ?_
      rintro e w16 ⟨rfl, J16, hm16, hH16, hg16⟩
      have hG16 := hG15.trans hg16
      have HM16 := Lib.hid hm16
      clear hm16 hg16 hc hH15 hG15 HM15
      clear d0 d1 d2 d3
      have d0 := (Holds.right (A := [_]) hH16.right).hcell 0
      have d1 := (Holds.right (A := [_]) hH16.right).hcell 1
      have d2 := hH16.right.hcell 0
      have d3 := hH16.right.hcell 1
      simp only [List.getElem?_toArray, List.getElem?_cons_zero, List.getElem?_cons_succ] at d0 d1 d2 d3
      go_wp2_with fail
      have hc := bwrite_none _ _ J16 _ i (.slice Ax x.length cx) x 0 none 0 w16 HM16.out hH16 (FrBytes.right (A := [_, _, _]) HFX.out) (by rw [mk_at HI.out.1 HI.out.2]; simp)
      rw [mk_write HI.out.1 HI.out.2 HLX.out] at hc
      refine hc.mono ?_
      rintro e w17 ⟨rfl, J17, hm17, hH17, hg17⟩
      have hG17 := hG16.trans hg17
      have HM17 := Lib.hid hm17
      clear hm17 hg17 hc hH16 hG16 HM16
      clear d0 d1 d2 d3
      have d0 := (Holds.right (A := [_]) hH17.right).hcell 0
      have d1 := (Holds.right (A := [_]) hH17.right).hcell 1
      have d2 := hH17.right.hcell 0
      have d3 := hH17.right.hcell 1
      simp only [List.getElem?_toArray, List.getElem?_cons_zero, List.getElem?_cons_succ] at d0 d1 d2 d3
      go_wp2_with fail
      have hc := bread_any _ _ J17 _ i 0 (.slice Ax x.length cx) x w17 HM17.out hH17 (FrBytes.right (A := [_, _, _]) HFX.out)
      rw [mk_read_yes HI.out.1 HI.out.2 (by simp)] at hc
      refine hc.mono ?_
      rintro e w18 ⟨rfl, J18, hm18, hH18, hg18⟩
      have hG18 := hG17.trans hg18
      have HM18 := Lib.hid hm18
      clear hm18 hg18 hc hH17 hG17 HM17
      clear d0 d1 d2 d3
      have d0 := (Holds.right (A := [_]) hH18.right).hcell 0
      have d1 := (Holds.right (A := [_]) hH18.right).hcell 1
      have d2 := hH18.right.hcell 0
      have d3 := hH18.right.hcell 1
      simp only [List.getElem?_toArray, List.getElem?_cons_zero, List.getElem?_cons_succ] at d0 d1 d2 d3
      go_wp2_with fail
      have hc := bread_any _ _ J18 _ i 0 (.slice Ay y.length cy) y w18 HM18.out hH18 (FrBytes.right (A := [_, _, _]) HFY.out)
      rw [mk_read_no HI.out.1 HI.out.2 (by simpa using fun e => HXY.out e.symm)] at hc
      refine hc.mono ?_
      rintro e w19 ⟨rfl, J19, hm19, hH19, hg19⟩
      have hG19 := hG18.trans hg19
      have HM19 := Lib.hid hm19
      clear hm19 hg19 hc hH18 hG18 HM18
      clear d0 d1 d2 d3
      have d0 := (Holds.right (A := [_]) hH19.right).hcell 0
      have d1 := (Holds.right (A := [_]) hH19.right).hcell 1
      have d2 := hH19.right.hcell 0
      have d3 := hH19.right.hcell 1
      simp only [List.getElem?_toArray, List.getElem?_cons_zero, List.getElem?_cons_succ] at d0 d1 d2 d3
      go_wp2_with fail
      have hc := bwrite_none _ _ J19 _ i (.slice Ax x.length cx) x 11 none 0 w19 HM19.out hH19 (FrBytes.right (A := [_, _, _]) HFX.out) (by rw [mk_at HI.out.1 HI.out.2]; simp)
      rw [write_given (mk_there HI.out.1 HI.out.2) (by rw [HLX.out]; rfl)] at hc
      refine hc.mono ?_
      rintro e w20 ⟨rfl, J20, hm20, hH20, hg20⟩
      have hG20 := hG19.trans hg20
      have HM20 := Lib.hid hm20
      clear hm20 hg20 hc hH19 hG19 HM19
      clear d0 d1 d2 d3
      have d0 := (Holds.right (A := [_]) hH20.right).hcell 0
      have d1 := (Holds.right (A := [_]) hH20.right).hcell 1
      have d2 := hH20.right.hcell 0
      have d3 := hH20.right.hcell 1
      simp only [List.getElem?_toArray, List.getElem?_cons_zero, List.getElem?_cons_succ] at d0 d1 d2 d3
      go_wp2_with fail
      have hc := bgiven_any _ _ J20 _ w20 HM20.out hH20
      refine hc.mono ?_
      rintro e w' ⟨rfl, rfl⟩
      clear hc
      go_wp2_with fail
      have hc := bwrite_none _ _ J20 _ i (.slice Ax x.length cx) x 0 none 0 w20 HM20.out hH20 (FrBytes.right (A := [_, _, _]) HFX.out) (by show (BM.at_ (Mk i _) i).length ≤ _; rw [mk_at HI.out.1 HI.out.2]; simp)
      rw [mk_after HI.out.1 HI.out.2 HLX.out] at hc
      refine hc.mono ?_
      rintro e w21 ⟨rfl, J21, hm21, hH21, hg21⟩
      have hG21 := hG20.trans hg21
      have HM21 := Lib.hid hm21
      clear hm21 hg21 hc hH20 hG20 HM20
      clear d0 d1 d2 d3
      have d0 := (Holds.right (A := [_]) hH21.right).hcell 0
      have d1 := (Holds.right (A := [_]) hH21.right).hcell 1
      have d2 := hH21.right.hcell 0
      have d3 := hH21.right.hcell 1
      simp only [List.getElem?_toArray, List.getElem?_cons_zero, List.getElem?_cons_succ] at d0 d1 d2 d3
      go_wp2_with fail
      refine (bread_nil 0 _ 0 (.slice Ay y.length cy) w21 rfl).mono ?_
      rintro e w22 ⟨rfl, rfl⟩
      have hH22 := hH21.alloc' (.cells #[.int .i64 0, .slice Ay y.length cy] 35)
      have hG22 := hG21.alloc (.cells #[.int .i64 0, .slice Ay y.length cy] 35)
      generalize w21.alloc (.cells #[.int .i64 0, .slice Ay y.length cy] 35) = w22 at *
      clear hH21 hG21 d0 d1 d2 d3
      have d0 := (Holds.right (A := [_]) hH22.right).hcell 0
      have d1 := (Holds.right (A := [_]) hH22.right).hcell 1
      have d2 := hH22.right.hcell 0
      have d3 := hH22.right.hcell 1
      simp only [List.getElem?_toArray, List.getElem?_cons_zero, List.getElem?_cons_succ] at d0 d1 d2 d3
      go_wp2_with fail
      refine (bwrite_nil 0 _ _ 0 (.slice Ay y.length cy) w22 rfl).mono ?_
      rintro e w23 ⟨rfl, rfl⟩
      have hH23 := hH22.alloc' (.cells #[.int .i64 0, .slice Ay y.length cy] 35)
      have hG23 := hG22.alloc (.cells #[.int .i64 0, .slice Ay y.length cy] 35)
      generalize w22.alloc (.cells #[.int .i64 0, .slice Ay y.length cy] 35) = w23 at *
      clear hH22 hG22 d0 d1 d2 d3
      have d0 := (Holds.right (A := [_]) hH23.right).hcell 0
      have d1 := (Holds.right (A := [_]) hH23.right).hcell 1
      have d2 := hH23.right.hcell 0
      have d3 := hH23.right.hcell 1
      simp only [List.getElem?_toArray, List.getElem?_cons_zero, List.getElem?_cons_succ] at d0 d1 d2 d3
      go_wp2_with fail
      have hc := bcan_nil 0 (.slice Ax x.length cx) w23
      refine hc.mono ?_
      rintro e w24 ⟨rfl, q24, rfl⟩
      have hH24 := hH23.drewN q24
      have hG24 := hG23.drewN q24
      generalize w23.drewN q24 = w24 at *
      clear hc hH23 hG23
      clear d0 d1 d2 d3
      go_wp2_with fail
      refine (bgiven_nil w24).mono ?_
      rintro e w' ⟨rfl, rfl⟩
      go_wp2_with fail
      refine (awake_any _ _ (Holds.right (A := [_, _]) hH24.right)).mono ?_
      rintro e w25 ⟨rfl, hHz, hgz⟩
      go_wp2
      go_ret
      exact ⟨rfl, HF.out _ hHz, hG24.trans hgz⟩
end Go.Proofs.Yteaeahhjkagbdaa
