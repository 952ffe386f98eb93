/-
  The laws' own helpers (scullerylaw0): Low, SameBytes, Fill, LendBytes, OverBytes.
-/
import Derived.Test.YteaeahhjkagbdaaTy
import Derived.Deep.QuietTactic
import Derived.BigQuiet
import Derived.Deep.RegionHeld3
import Derived.Deep.RegionLaw
import Derived.Deep.DrawnRows
import Derived.StillTailTactics
import Derived.Test.YteaeahhjkagbdaaOrd
import Derived.Deep.LoopGhost
import Derived.WalkLawsBesides
import Derived.WalkSpells
import Derived.Lib.Hide
namespace Go.Proofs.Yteaeahhjkagbdaa
open Go.RowKit
set_option linter.unusedSimpArgs false
set_option linter.unusedVariables false

/-- what is so of the first k, for the loop -/
def SameTo (xs ys : List UInt8) (w : World) (v : Value) (wr : World) : Prop := ∃ k m : Nat, k ≤ xs.length ∧ v = .int .i64 k ∧ xs.take k = ys.take k ∧ wr = w.drewN m

theorem byte_ne (x y : UInt8) : ((x.toNat : Int) != (y.toNat : Int)) = decide (x ≠ y) := by
  by_cases h : x = y
  · subst h; simp
  · have : (x.toNat : Int) ≠ (y.toNat : Int) := fun e => h (UInt8.toNat_inj.1 (by omega))
    simp [h, this]

set_option maxHeartbeats 400000 in
theorem same_any (va vb : Value) (xs ys : List UInt8) (w : World) (ha : BytesAt w va xs) (hb : BytesAt w vb ys) :
    Calls Try.prog 27 #[va, vb] w (RetQ w (.bool (decide (xs = ys)))) := by
  have hna := ReadsAt.le ha
  have hnb := ReadsAt.le hb
  unfold maxLen at hna hnb
  obtain ⟨_, A, ca, rfl, _, _, ha⟩ := ha
  obtain ⟨_, B, cb, rfl, _, _, hb⟩ := hb
  have Ha := Lib.hid ha
  have Hb := Lib.hid hb
  clear ha hb
  by_cases hl : xs.length = ys.length
  · have hl0 : ((xs.length : Int) != (ys.length : Int)) = false := by rw [hl]; simp
    have hl1 : (xs.length != ys.length) = false := by rw [hl]; simp
    have HL := Lib.hid hl
    clear hl
    go_enter Try.func27, Try.ntmps27
    go_wp2
    go_loopw [5] (fun v wr => SameTo xs ys w v wr) (fun v _ => xs.length - (intOf v).toNat)
    case atStart => exact ⟨0, 0, by omega, rfl, by simp, rfl⟩
    case round =>
      obtain ⟨k, m, hk, rfl, hrel, rfl⟩ := hrel
      have HR := Lib.hid hrel; clear hrel
      by_cases hlt : k < xs.length
      · have hlt2 : k < ys.length := by have := HL.out; omega
        obtain ⟨b1, o1, rfl, h1⟩ := Ha.out (by omega)
        obtain ⟨b2, o2, rfl, h2⟩ := Hb.out (by omega)
        have c1 : w.cell? ⟨b1, o1 + k, none⟩ = some (.int .u8 (xs[k].toNat : Int)) := h1 k _ (by simp [hlt, cellB])
        have c2 : w.cell? ⟨b2, o2 + k, none⟩ = some (.int .u8 (ys[k].toNat : Int)) := h2 k _ (by simp [hlt2, cellB])
        clear h1 h2
        by_cases hx : xs[k] = ys[k]
        · have e1 : ((xs[k].toNat : Int) != (ys[k].toNat : Int)) = false := by rw [hx]; simp
          have HX := Lib.hid hx; clear hx
          go_wp2
          go_quiet (fail)
          go_wp2
          go_roundw
          case rel => exact ⟨k + 1, m + nq, by omega, by go_num, by rw [List.take_succ_eq_append_getElem hlt, List.take_succ_eq_append_getElem hlt2, HR.out, HX.out], rfl⟩
          case measure => simp [intOf]; omega
        · have e1 : ((xs[k].toNat : Int) != (ys[k].toNat : Int)) = true := by rw [byte_ne]; simpa using hx
          have HX := Lib.hid hx; clear hx
          go_wp2
          go_quiet (fail)
          go_wp2
          go_ret
          exact ⟨ret_b (b := false) (decide_eq_false fun e => by subst e; exact HX.out rfl).symm, m + nq, drewN2 _ _ _⟩
      · go_wp2
        go_ret
        have h1 := HR.out
        have := HL.out
        rw [List.take_of_length_le (by omega), List.take_of_length_le (by omega)] at h1
        exact ⟨ret_b (b := true) (decide_eq_true h1).symm, m, rfl⟩
  · have hl0 : ((xs.length : Int) != (ys.length : Int)) = true := by simp; omega
    have hl1 : (xs.length != ys.length) = true := by simpa using hl
    go_enter Try.func27, Try.ntmps27
    go_wp2
    go_ret
    exact ⟨ret_b (b := false) (decide_eq_false fun e => by subst e; exact hl rfl).symm, 0, rfl⟩

/-- Fill's bytes -/
def fillB (n : Int) (i : Nat) : UInt8 := UInt8.ofNat (((n / 2 ^ (8 * (i % 4)) + i) % 256).toNat)
def fillL (n : Int) (size : Int) : List UInt8 := if size ≤ 300 then (List.range size.toNat).map (fillB n) else []

def FillTo (n size : Int) (w : World) (Fr : HL) (v i : Value) (wr : World) : Prop :=
  ∃ (k : Nat) (H : HL), k ≤ 300 ∧ i = .int .i64 k ∧ (k : Int) ≤ max size 0 ∧ (300 < size → k = 0) ∧ IsBytes v ((List.range k).map (fillB n)) H ∧ Holds wr (H ++ Fr) ∧ Grew w wr

theorem fill_step {n size : Int} {w wr w' : World} {Fr H' : HL} {k : Nat} {v' : Value} (hs : size ≤ 300) (hk : (k : Int) < size) (hg : Grew w wr)
    (hrow : IsRow 5 1 v' (k + 1) (((List.range k).map (fillB n)).map cellB ++ [Value.int IntKind.u8 ((n / 2 ^ (8 * (k % 4)) + (k : Int)) % 256)]) H')
    (hH2 : Holds w' (H' ++ Fr)) {o : Obj} (hg2 : Grew (wr.alloc o) w') : FillTo n size w Fr v' (.int .i64 ((k : Int) + 1)) w' := by
  refine ⟨k + 1, H', by omega, by go_num, by omega, fun h => by omega, ?_, hH2, (hg.alloc o).trans hg2⟩
  have e : [Value.int IntKind.u8 ((n / 2 ^ (8 * (k % 4)) + (k : Int)) % 256)] = [cellB (fillB n k)] := by
    have h0 : 0 ≤ (n / 2 ^ (8 * (k % 4)) + (k : Int)) % 256 ∧ (n / 2 ^ (8 * (k % 4)) + (k : Int)) % 256 < 256 := by omega
    have h1 : ((fillB n k).toNat : Int) = (n / 2 ^ (8 * (k % 4)) + (k : Int)) % 256 := by
      unfold fillB
      generalize (n / 2 ^ (8 * (k % 4)) + (k : Int)) % 256 = r at h0 ⊢
      obtain ⟨r, rfl⟩ := Int.eq_ofNat_of_zero_le h0.1
      simp only [Int.toNat_natCast, UInt8.toNat_ofNat']
      omega
    simp only [cellB, h1]
  rw [e] at hrow
  unfold IsBytes
  rw [List.range_succ, List.map_append]
  simpa using hrow

set_option maxHeartbeats 400000 in
theorem fill_any (n size : Int) (w : World) (Fr : HL) (hH : Holds w Fr) (hs : size ≤ 9223372036854775807) :
    Calls Try.prog 18 #[.int .i64 n, .int .i64 size] w (RetNew (fun v H => IsBytes v (fillL n size) H) w Fr) := by
  go_enter Try.func18, Try.ntmps18
  go_wp2
  go_loopw [5, 6] (fun v i wr => FillTo n size w Fr v i wr) (fun _ i _ => size.toNat - (intOf i).toNat)
  case atStart => exact ⟨0, [], by omega, rfl, by omega, fun _ => rfl, IsRow.nil _ _, hH, Grew.refl w⟩
  case round =>
    obtain ⟨k, H, hk, rfl, hm, h300, hb, hH', hg⟩ := hrel
    have HB := Lib.hid hb; clear hb
    have HM := Lib.hid hm; clear hm
    have HQ := Lib.hid h300; clear h300
    by_cases h1 : (k : Int) < size
    · by_cases h2 : size ≤ 300
      · go_wp2_with (at_builtin; refine wpList_append_T tBytes (by rfl) (.tmp 16) (.tmp 26) (by rfl) (by rfl) (by rfl) HB.out (hH'.alloc' _) ReadsAt.one (by simp [Value.oneCell']) (by simp [maxLen]; omega) (by simp; omega) ?_; intro A' c' w' H' hrow hH2 hg2)
        simp only [List.length_map, List.length_range] at hrow
        exact ⟨fill_step h2 h1 hg hrow hH2 hg2, by simp [intOf]; omega⟩
      · go_wp2
        go_ret
        have hk0 := HQ.out (by omega)
        subst hk0
        exact ⟨_, H, rfl, by unfold fillL; rw [if_neg (by omega)]; exact HB.out, hH', hg⟩
    · go_wp2
      go_ret
      refine ⟨_, H, rfl, ?_, hH', hg⟩
      have hm := HM.out
      have hk0 := HQ.out
      unfold fillL
      have : size.toNat = k := by omega
      rw [if_pos (by omega), this]
      exact HB.out

/-- Low's number -/
def lowI (x n : Int) : Int := wrap64 ((IntKind.u64.wrap x).tmod n)
theorem low_bd (x n : Int) (hn : 1 ≤ n) (hn2 : n ≤ 9223372036854775807) : 0 ≤ lowI x n ∧ lowI x n < n := by
  have h0 : 0 ≤ IntKind.u64.wrap x := by simp [IntKind.wrap, IntKind.signed, IntKind.bits]; omega
  have h1 : (IntKind.u64.wrap x).tmod n = (IntKind.u64.wrap x) % n := Int.tmod_eq_emod_of_nonneg h0
  have h2 := Int.emod_nonneg (IntKind.u64.wrap x) (show n ≠ 0 by omega)
  have h3 := Int.emod_lt_of_pos (IntKind.u64.wrap x) (show 0 < n by omega)
  have h4 : lowI x n = (IntKind.u64.wrap x) % n := by
    unfold lowI
    rw [h1]
    generalize (IntKind.u64.wrap x) % n = r at h2 h3
    unfold wrap64; omega
  omega

set_option maxHeartbeats 400000 in
theorem low_any (x n : Int) (w : World) (hn : 1 ≤ n) (hn2 : n ≤ 9223372036854775807) :
    Calls Try.prog 31 #[.int .i64 x, .int .i64 n] w fun e w' => e = .returned (.int .i64 (lowI x n)) ∧ w = w' := by
  go_enter Try.func31, Try.ntmps31
  go_wp2
  go_ret
  exact ⟨rfl, rfl⟩

/-- OverBytes, in the midst -/
def OverTo (v : Value) (n : Nat) (w : World) (Fr : HL) (i : Value) (wr : World) : Prop :=
  ∃ (k : Nat) (ys : List Value) (H : HL), k ≤ n ∧ i = .int .i64 k ∧ IsRow 5 1 v n ys H ∧ (∀ y ∈ ys, y.oneCell' = true) ∧ Holds wr (H ++ Fr) ∧ Grew w wr

set_option maxHeartbeats 400000 in
theorem over_any (v : Value) (xs : List UInt8) (H Fr : HL) (w : World) (hb : IsBytes v xs H) (hH : Holds w (H ++ Fr)) (hsm : xs.length ≤ 1000000) :
    Calls Try.prog 22 #[v] w (RetFr (.tuple #[]) w Fr) := by
  have hb' : IsRow 5 1 v xs.length (xs.map cellB) H := hb
  have h1 : ∀ y ∈ xs.map cellB, y.oneCell' = true := by intro y hy; obtain ⟨x, _, rfl⟩ := List.mem_map.1 hy; rfl
  clear hb
  generalize xs.length = n at hb' hsm
  generalize xs.map cellB = ys at hb' h1
  obtain ⟨A, c, rfl⟩ := hb'.val
  have HB := Lib.hid hb'; clear hb'
  have H1 := Lib.hid h1; clear h1
  go_enter Try.func22, Try.ntmps22
  go_wp2
  go_loopw [2] (fun i wr => OverTo (.slice A n c) n w Fr i wr) (fun i _ => n - (intOf i).toNat)
  case atStart => exact ⟨0, ys, H, by omega, rfl, HB.out, H1.out, hH, Grew.refl w⟩
  case round =>
    obtain ⟨k, zs, H2, hk, rfl, hz, hz1, hH2, hg⟩ := hrel
    have HZ := Lib.hid hz; clear hz
    have HZ1 := Lib.hid hz1; clear hz1
    by_cases hlt : k < n
    · have hlz : zs.length = n := by have := HZ.out.1; simpa using this
      obtain ⟨g, cap, hv, hnc, hcm, hgl, hcell, hfro, hset⟩ := HZ.out.cell hH2 (j := k) (by omega)
      have HS := Lib.hid hset; clear hset
      injection hv with hv1 hv2 hv3
      subst hv1; subst hv3
      generalize zs[k] = z0 at hcell
      clear hlz hv2
      go_wp2
      obtain ⟨H3, hr, hh⟩ := HS.out wr Fr hH2 (.int .u8 238)
      refine ⟨⟨k + 1, _, H3, by omega, by go_num, hr, ?_, hh, hg.setCell _ _⟩, by simp [intOf]; omega⟩
      intro y hy
      rcases List.mem_or_eq_of_mem_set hy with h | rfl
      · exact HZ1.out y h
      · rfl
    · go_wp2_with (at_builtin; refine wpList_append_T tBytes (by rfl) (.tmp 12) (.tmp 13) (by rfl) (by rfl) (by rfl) HZ.out (hH2.alloc' _) ReadsAt.one (by simp [Value.oneCell']) (by simp [maxLen]; omega) (by simp; omega) ?_; intro A' c' w' H' hrow hH3 hg2)
      go_end0
      exact ⟨rfl, hH3.right, (hg.alloc _).trans hg2⟩

def LendTo (g n : Nat) (xs : List UInt8) (w : World) (Fr : HL) (i : Value) (wr : World) : Prop :=
  ∃ (k : Nat) (cs : Array Value), k ≤ 3 ∧ i = .int .i64 k ∧ cs.size = n + 3 ∧ cs.toList.take n = xs.map cellB ∧ Holds wr ((g, .cells cs 5) :: Fr) ∧ Grew w wr

set_option maxHeartbeats 400000 in
theorem lend_any (v : Value) (xs : List UInt8) (Fr : HL) (w : World) (hb : BytesAt w v xs) (hH : Holds w Fr) (hsm : xs.length ≤ 1000000) :
    Calls Try.prog 17 #[v] w (RetNew (fun v H => IsBytes v xs H) w Fr) := by
  have hb1 : ∀ y ∈ xs.map cellB, y.oneCell' = true := by intro y hy; obtain ⟨x, _, rfl⟩ := List.mem_map.1 hy; rfl
  have hmk : ∃ cs : Array Value, cs.size = xs.length + 3 ∧ ∀ w : World, (Instr.makeSlice 31 (.int .i64 0) (.int .i64 ((xs.length : Int) + 3))).run Try.prog w = .ok (.slice (some ⟨w.heap.size, 0, none⟩) 0 (xs.length + 3)) (w.alloc (.cells cs 5)) :=
    ⟨_, made_size, fun w => by have := run_makeN (P := Try.prog) tBytes 0 (xs.length + 3) (by omega) (by omega) (by simp [maxLen]; omega) w; simpa using this⟩
  obtain ⟨cs, hcs, hmk⟩ := hmk
  obtain ⟨A, c, rfl⟩ := hb.val
  have hlen : (xs.map cellB).length = xs.length := by simp
  have HB := Lib.hid hb; clear hb
  have HB1 := Lib.hid hb1; clear hb1
  have HL := Lib.hid hlen; clear hlen
  have HC := Lib.hid hcs; clear hcs
  go_enter Try.func17, Try.ntmps17
  go_wp2_with (at_builtin; refine wpList_append_room tBytes (by rfl) (.tmp 10) (.tmp 11) (by rfl) (by rfl) (by rfl) (hH.alloc (.cells cs 5)) (okfz_zero _) (HB.out.alloc _) HB1.out (by omega) (by rw [HC.out]; omega) ?_; intro w1 cs1 hsz heq hH1 hg1)
  have HS := Lib.hid (hsz.trans HC.out); clear hsz
  have HE := Lib.hid heq; clear heq
  go_loopw [5] (fun i wr => LendTo w.heap.size xs.length xs w Fr i wr) (fun i _ => 3 - (intOf i).toNat)
  case atStart =>
    refine ⟨0, cs1, by omega, rfl, HS.out, ?_, hH1, ((Grew.refl w).alloc _).trans hg1⟩
    rw [HE.out]
    simp
  case round =>
    obtain ⟨k, cs2, hk, rfl, hs2, ht2, hH2, hg2⟩ := hrel
    have HS2 := Lib.hid hs2; clear hs2
    have HT2 := Lib.hid ht2; clear ht2
    by_cases hlt : k < 3
    · have hc1 : wr.cell? ⟨w.heap.size, xs.length + k, none⟩ = some (cs2[xs.length + k]'(by rw [HS2.out]; omega)) := by
        rw [hH2.cell (t := 5) (cs := cs2) (fz := (0, 0)) (by simp)]
        exact Array.getElem?_eq_getElem _
      have hf1 : wr.frozen? ⟨w.heap.size, xs.length + k, none⟩ = false := hH2.frozen (t := 5) (cs := cs2) (by simp) _
      generalize cs2[xs.length + k]'(by rw [HS2.out]; omega) = z at hc1
      go_wp2
      refine ⟨⟨k + 1, _, by omega, by go_num, ?_, ?_, hH2.set (xs.length + k) _, hg2.setCell _ _⟩, by simp [intOf]; omega⟩
      · have := HS2.out; simpa using this
      · rw [Array.toList_setIfInBounds, List.take_set_of_le (by omega)]; exact HT2.out
    · go_wp2
      go_ret
      refine ⟨_, [(w.heap.size, .cells cs2 5)], rfl, ?_, hH2, hg2⟩
      exact ⟨by simp, .inr ⟨w.heap.size, xs.length + 3, cs2, (0, 0), rfl, by omega, by simp [maxLen]; omega, by rw [HS2.out]; omega, by rw [Nat.mul_one]; exact HT2.out, okfz_zero _, rfl⟩⟩
end Go.Proofs.Yteaeahhjkagbdaa
