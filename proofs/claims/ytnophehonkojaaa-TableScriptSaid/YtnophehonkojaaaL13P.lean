/-
  Chapter 13: TableSparse.
-/
import Derived.Test.YtnophehonkojaaaL13
import Derived.Test.YtnophehonkojaaaTbQ
namespace Go.Proofs.Ytnophehonkojaaa
open Go.RowKit
set_option linter.unusedSimpArgs false
set_option linter.unusedVariables false

/-- as the code reckons the address -/
theorem addrS_code {f : Int} {s k : Nat} (hs : s ≤ 57) (hk : k < 64) : IntKind.u64.wrap (f + IntKind.u64.wrap ((k : Int) * 2 ^ s)) = addrS f s k := by
  unfold addrS
  simp only [show ∀ x, IntKind.u64.wrap x = x % 18446744073709551616 from fun _ => rfl]
  omega
def SpTo (f : Int) (s m : Nat) (t : Value) (W : World) (F : HL) (i : Value) (wr : World) : Prop :=
  ∃ (k : Nat) (H : HL), k ≤ m ∧ i = .int .i64 k ∧ IsTable t (stepT f s k) H ∧ Holds wr (H ++ F) ∧ Grew W wr
def GeTo (m : Nat) (W : World) (F : HL) (i : Value) (wr : World) : Prop :=
  ∃ (k : Nat), k ≤ m ∧ i = .int .i64 k ∧ Holds wr F ∧ Grew W wr
def CuTo (f : Int) (s m cut : Nat) (t : Value) (W : World) (F : HL) (i : Value) (wr : World) : Prop :=
  ∃ (k : Nat) (H : HL), k ≤ cut ∧ i = .int .i64 k ∧ IsTable t (cutT f s m k) H ∧ Holds wr (H ++ F) ∧ Grew W wr
theorem low_nat (x n : Int) (hn : 1 ≤ n) (hn2 : n ≤ 9223372036854775807) : ∃ l : Nat, lowI x n = (l : Int) ∧ (l : Int) < n := by
  have := low_bd x n hn hn2
  exact ⟨(lowI x n).toNat, by omega, by omega⟩

set_option maxRecDepth 20000 in
set_option maxHeartbeats 2000000 in
theorem sparse13_walk (n f sh ct : Int) (W : World) : Calls Try.prog 6 #[.int .i64 n, .int .u64 f, .int .i64 sh, .int .i64 ct] W (RetFr (.bool true) W (allOf W)) := by
  have hH := holds_all W
  have HA := Lib.hid (fun (w : World) (H : HL) (hx : Holds w (H ++ allOf W)) => awake13_any w _ hx)
  have HT1 := Lib.hid (tbnewT_any W _ hH)
  have HL1 := Lib.hid (low_any n 61 W (by omega) (by omega))
  have HL2 := Lib.hid (low_any sh 58 W (by omega) (by omega))
  obtain ⟨m, hm, hmb⟩ := low_nat n 61 (by omega) (by omega)
  obtain ⟨s, hs, hsb⟩ := low_nat sh 58 (by omega) (by omega)
  rw [hm] at HL1
  rw [hs] at HL2
  have hmb2 : m ≤ 60 := by omega
  have hsb2 : s ≤ 57 := by omega
  clear hH hm hs hmb hsb
  go_enter Try.func6, Try.ntmps6
  go_wp2_with fail
  refine HL1.out.mono ?_
  rintro e w0 ⟨rfl, rfl⟩
  go_wp2_with fail
  refine HL2.out.mono ?_
  rintro e w0 ⟨rfl, rfl⟩
  clear HL1 HL2
  go_wp2_with fail
  refine HT1.out.mono ?_
  rintro e w1 ⟨t1, H1, rfl, ht1, hH1, hg1⟩
  obtain ⟨b1, rfl⟩ := ht1.ptr
  have HTA := Lib.hid ht1
  clear HT1 ht1
  go_wp2_with fail
  go_loopw [10] (fun i wr => SpTo f s m (.pointer (some ⟨b1, 0, none⟩)) W (allOf W) i wr) (fun i _ => m - (intOf i).toNat)
  case atStart => exact ⟨0, H1, by omega, rfl, HTA.out, hH1, hg1⟩
  case round =>
    clear hH1 hg1 HTA
    obtain ⟨k, Hk, hk, rfl, hkt, hHk, hgk⟩ := hrel
    have HKT := Lib.hid hkt
    have HHK := Lib.hid hHk
    by_cases hlt : k < m
    · have HAD := Lib.hid (addrS_code (f := f) hsb2 (show k < 64 by omega))
      have HNO := Lib.hid (stepT_none (f := f) hsb2 (show k < 64 by omega))
      have hlen := stepT_len (f := f) hsb2 (show k ≤ 64 by omega)
      have HP := Lib.hid (tbput_any (.pointer (some ⟨b1, 0, none⟩)) _ (entS f s k) Hk (allOf W) wr HKT.out HHK.out (addrS_nn f s k).1 (by omega))
      rw [HNO.out, ← stepT_succ] at HP
      simp only [Ent.agg, entS, optE, Option.getD, Option.isSome, Ent.zero] at HP
      generalize addrS f s k = ad at *
      clear hlen hkt hHk HNO
      have HKE : Hid (((k : Int) % 2 == 0) = decide (k % 2 = 0)) := Lib.hid (by
        by_cases h : k % 2 = 0
        · rw [decide_eq_true h]; simp; omega
        · rw [decide_eq_false h]; simp; omega)
      go_wp2_with fail
      rw [HAD.out, HKE.out]
      refine HP.out.mono ?_
      rintro e w4 ⟨rfl, H4, ht4, hH4, hg4⟩
      have HT4 := Lib.hid ht4
      have hH5 := hH4.alloc' (.cells #[.int .u64 0, .int .i64 0, .bool false, .int .i64 0] 28)
      have hg5 := (hgk.trans hg4).alloc (.cells #[.int .u64 0, .int .i64 0, .bool false, .int .i64 0] 28)
      clear ht4 HP hH4 hg4
      go_wp2_with fail
      go_roundw
      case rel => exact ⟨k + 1, H4, by omega, by go_num, HT4.out, hH5, hg5⟩
      case measure => simp [intOf] <;> omega
    · obtain rfl : k = m := by omega
      have HCP := Lib.hid (tbcopy_any _ _ _ _ _ HKT.out HHK.out)
      clear hkt hHk HHK hlt
      go_wp2_with fail
      refine HCP.out.mono ?_
      rintro e w5 ⟨v5, Hc, rfl, hc5, hH5, hg5⟩
      obtain ⟨b5, rfl⟩ := hc5.ptr
      have HC := Lib.hid hc5
      obtain ⟨cut, hcut, hcutb⟩ := low_nat ct ((k : Int) + 1) (by omega) (by omega)
      have HL3 := Lib.hid (low_any ct ((k : Int) + 1) w5 (by omega) (by omega))
      rw [hcut] at HL3
      have hcb : cut ≤ k := by omega
      have hg6 := hgk.trans hg5
      clear hc5 HCP hcut hcutb hgk hg5
      go_wp2_with fail
      refine HL3.out.mono ?_
      rintro e w6 ⟨rfl, rfl⟩
      clear HL3
      go_wp2_with fail
      go_loopw [14] (fun i wr => GeTo k W (Hk ++ (Hc ++ allOf W)) i wr) (fun i _ => k - (intOf i).toNat)
      case atStart => exact ⟨0, by omega, rfl, hH5.swap, hg6⟩
      case round =>
        clear hH5 hg6
        obtain ⟨j, hj, rfl, hHj, hgj⟩ := hrel
        have HHJ := Lib.hid hHj
        clear hHj
        by_cases hjk : j < k
        · have HAD := Lib.hid (addrS_code (f := f) hsb2 (show j < 64 by omega))
          have HG := Lib.hid (tbgetT_any _ _ (addrS f s j) _ _ wr HKT.out HHJ.out)
          rw [stepT_find hsb2 (by omega) (by omega), if_pos hjk] at HG
          simp only [Ent.agg, entS, optE, Option.getD, Option.isSome, Ent.zero] at HG
          generalize hda : decide (j % 2 = 0) = dj at *
          generalize addrS f s j = ad at *
          clear hda
          go_wp2_with fail
          rw [HAD.out]
          refine HG.out.mono ?_
          rintro e w7 ⟨rfl, hH7, hg7⟩
          have hH8 := hH7.alloc (.cells #[.int .u64 ad, .int .i64 j, .bool dj, .int .i64 0] 28)
          have hg8 := (hgj.trans hg7).alloc (.cells #[.int .u64 ad, .int .i64 j, .bool dj, .int .i64 0] 28)
          have c1 := hH8.hcell 1
          have HH8 := Lib.hid hH8.tail
          clear HG hH7 hg7 hH8
          go_wp2_with fail
          go_roundw
          case rel => exact ⟨j + 1, by omega, by go_num, HH8.out, hg8⟩
          case measure => simp [intOf] <;> omega
        · go_wp2_with fail
          go_loopw [17] (fun i wr => CuTo f s k cut (.pointer (some ⟨b1, 0, none⟩)) W (Hc ++ allOf W) i wr) (fun i _ => cut - (intOf i).toNat)
          case atStart => exact ⟨0, Hk, by omega, rfl, HKT.out, HHJ.out, hgj⟩
          case round =>
            clear HHJ hgj HKT
            obtain ⟨c, Hq, hc, rfl, hqt, hHq, hgq⟩ := hrel
            have HQT := Lib.hid hqt
            have HHQ := Lib.hid hHq
            clear hqt hHq
            by_cases hck : c < cut
            · have HAD := Lib.hid (addrS_code (f := f) hsb2 (show c < 64 by omega))
              have HD1 := Lib.hid (tbdrop_any _ _ (addrS f s c) _ _ wr HQT.out HHQ.out)
              rw [cutT_find hsb2 (by omega) (by omega) (by omega), if_pos (by omega), ← cutT_succ] at HD1
              have HD2 := Lib.hid (fun (wx : World) (H F : HL) (h1 : IsTable (.pointer (some ⟨b1, 0, none⟩)) (cutT f s k (c + 1)) H) (h2 : Holds wx (H ++ F)) => tbdrop_any _ _ (addrS f s c) _ F wx h1 h2)
              rw [cutT_find hsb2 (by omega) (by omega) (by omega), if_neg (by omega)] at HD2
              have HSAME := Lib.hid (show dropT (cutT f s k (c + 1)) (addrS f s c) = cutT f s k (c + 1) from by
                have h := cutT_find (f := f) hsb2 (show k ≤ 64 by omega) (show c + 1 ≤ k by omega) (show c < 64 by omega)
                rw [if_neg (by omega)] at h
                exact List.filter_eq_self.2 fun x hx => decide_eq_true (findE_none.1 h x hx))
              rw [HSAME.out] at HD2
              simp only [Ent.agg, entS, optE, Option.getD, Option.isSome, Ent.zero] at HD1 HD2
              generalize hda : decide (c % 2 = 0) = dj at *
              generalize addrS f s c = ad at *
              clear hda HSAME
              go_wp2_with fail
              rw [HAD.out]
              refine HD1.out.mono ?_
              rintro e w7 ⟨rfl, H7, ht7, hH7, hg7⟩
              have hH8 := hH7.alloc (.cells #[.int .u64 ad, .int .i64 c, .bool dj, .int .i64 0] 28)
              have hg8 := (hgq.trans hg7).alloc (.cells #[.int .u64 ad, .int .i64 c, .bool dj, .int .i64 0] 28)
              have HT7 := Lib.hid ht7
              have HD3 := Lib.hid (HD2.out _ H7 ((w7.heap.size, .cells #[.int .u64 ad, .int .i64 c, .bool dj, .int .i64 0] 28) :: (Hc ++ allOf W)) ht7 (Holds.swap (A := [_]) hH8))
              clear HD1 HD2 hH7 hH8 hg7 ht7
              go_wp2_with fail
              rw [HAD.out]
              refine HD3.out.mono ?_
              rintro e w8 ⟨rfl, H8, ht8, hH9, hg9⟩
              have hH10 := hH9.alloc (.cells #[.int .u64 0, .int .i64 0, .bool false, .int .i64 0] 28)
              have hg10 := (hg8.trans hg9).alloc (.cells #[.int .u64 0, .int .i64 0, .bool false, .int .i64 0] 28)
              have HT8 := Lib.hid ht8
              have c1 := hH10.tail.right.hcell 1
              have HH10 := Lib.hid hH10
              clear HD3 ht8 hH9 hg8 hg9 hH10 HT7
              go_wp2_with fail
              go_roundw
              case rel => exact ⟨c + 1, H8, by omega, by go_num, HT8.out, Holds.mid (B := [_]) HH10.out.tail, hg10⟩
              case measure => simp [intOf] <;> omega
            · obtain rfl : c = cut := by omega
              obtain ⟨e1, e2⟩ := cutT_both (f := f) hsb2 (show k ≤ 64 by omega) (show c ≤ k by omega)
              have HL1 := Lib.hid (fun (w : World) (hx : Holds w (Hq ++ (Hc ++ allOf W))) => tblenT_any _ _ _ _ w HQT.out hx)
              have HL2 := Lib.hid (fun (w : World) (hx : Holds w (Hq ++ (Hc ++ allOf W))) => tblenT_any _ _ _ _ w HC.out hx.swap)
              have HD1 := Lib.hid (fun (w : World) (hx : Holds w (Hq ++ (Hc ++ allOf W))) => tbdirty_any _ _ _ _ w HC.out hx.swap)
              have HD2 := Lib.hid (fun (w : World) (hx : Holds w (Hq ++ (Hc ++ allOf W))) => tbdirty_any _ _ _ _ w HQT.out hx)
              rw [show (cutT f s k c).length = k - c from by omega] at HL1
              rw [stepT_len hsb2 (by omega)] at HL2
              rw [stepT_dirty hsb2 (by omega)] at HD1
              rw [show dirtyN (cutT f s k c) = (k + 1) / 2 - (c + 1) / 2 from by omega] at HD2
              have hq1 : ((k : Int) + 1).tdiv 2 = (((k + 1) / 2 : Nat) : Int) := by rw [Int.tdiv_eq_ediv_of_nonneg (by omega)]; omega
              have hq2 : ((c : Int) + 1).tdiv 2 = (((c + 1) / 2 : Nat) : Int) := by rw [Int.tdiv_eq_ediv_of_nonneg (by omega)]; omega
              have hb1 : (k + 1) / 2 ≤ 31 := by omega
              have hb2 : (c + 1) / 2 ≤ (k + 1) / 2 := by omega
              have hkc : ((k - c : Nat) : Int) = (k : Int) - c := by omega
              have hdd : (((k + 1) / 2 - (c + 1) / 2 : Nat) : Int) = (((k + 1) / 2 : Nat) : Int) - (((c + 1) / 2 : Nat) : Int) := by omega
              rw [hkc] at HL1
              rw [hdd] at HD2
              have HZ := Lib.hid (HL1.out wr HHQ.out)
              clear e1 e2 hkc hdd
              generalize (k + 1) / 2 = dk at *
              generalize (c + 1) / 2 = dc at *
              have hsubw : IntKind.i64.wrap ((k : Int) - c) = (k : Int) - c := by simp only [IntKind.wrap, IntKind.signed, IntKind.bits]; simp; omega
              have hsubd : IntKind.i64.wrap ((dk : Int) - dc) = (dk : Int) - dc := by simp only [IntKind.wrap, IntKind.signed, IntKind.bits]; simp; omega
              go_wp2_with fail
              refine HZ.out.mono ?_
              rintro e w8 ⟨rfl, q8, rfl⟩
              have hH8 := HHQ.out.drewN q8
              have hg8 := hgq.drewN q8
              generalize wr.drewN q8 = w8 at *
              have HZ2 := Lib.hid (HL2.out w8 hH8)
              clear HZ HL1 HL2
              go_wp2_with fail
              refine HZ2.out.mono ?_
              rintro e w9 ⟨rfl, q9, rfl⟩
              have hH9 := hH8.drewN q9
              have hg9 := hg8.drewN q9
              generalize w8.drewN q9 = w9 at *
              have HZ3 := Lib.hid (HD1.out w9 hH9)
              clear HZ2 HD1 hH8 hg8
              go_wp2_with fail
              refine HZ3.out.mono ?_
              rintro e w10 ⟨rfl, hH10, hg10⟩
              have HZ4 := Lib.hid (HD2.out w10 hH10.swap)
              have hg11 := hg9.trans hg10
              clear HZ3 HD2 hH9 hg9 hg10 hH10
              go_wp2_with fail
              refine HZ4.out.mono ?_
              rintro e w11 ⟨rfl, hH12, hg12⟩
              have HZ5 := Lib.hid (HA.out w11 (Hq ++ Hc) (by simpa using hH12))
              clear HZ4 HA
              go_wp2_with fail
              refine HZ5.out.mono ?_
              rintro e w12 ⟨rfl, hH13, hg13⟩
              go_wp2_with fail
              go_ret
              exact ⟨rfl, hH13.right, (hg11.trans hg12).trans hg13⟩
end Go.Proofs.Ytnophehonkojaaa
