/-
  The laws' own helpers (scullerylaw0): Low, SameBytes, Fill, LendBytes, OverBytes.
-/
import Derived.Test.YtinfbpldgobmfaaTy
import Derived.Deep.QuietTactic
import Derived.BigQuiet
import Derived.Deep.RegionHeld3
import Derived.Deep.RegionLaw
import Derived.Deep.DrawnRows
import Derived.StillTailTactics
import Derived.Test.YtinfbpldgobmfaaOrd
import Derived.Deep.LoopGhost
import Derived.WalkLawsBesides
import Derived.WalkSpells
import Derived.Lib.Hide
namespace Go.Proofs.Ytinfbpldgobmfaa
open Go.RowKit
set_option linter.unusedSimpArgs false
set_option linter.unusedVariables false

/-- what is so of the first k, for the loop -/
def SameTo (xs ys : List UInt8) (w : World) (v : Value) (wr : World) : Prop := ∃ k m : Nat, k ≤ xs.length ∧ v = .int .i64 k ∧ xs.take k = ys.take k ∧ wr = w.drewN m

theorem byte_ne (x y : UInt8) : ((x.toNat : Int) != (y.toNat : Int)) = decide (x ≠ y) := by
  by_cases h : x = y
  · subst h; simp
  · have : (x.toNat : Int) ≠ (y.toNat : Int) := fun e => h (UInt8.toNat_inj.1 (by omega))
    simp [h, this]

set_option maxHeartbeats 400000 in
theorem same_any (va vb : Value) (xs ys : List UInt8) (w : World) (ha : BytesAt w va xs) (hb : BytesAt w vb ys) :
    Calls Try.prog 16 #[va, vb] w (RetQ w (.bool (decide (xs = ys)))) := by
  have hna := ReadsAt.le ha
  have hnb := ReadsAt.le hb
  unfold maxLen at hna hnb
  obtain ⟨_, A, ca, rfl, _, _, ha⟩ := ha
  obtain ⟨_, B, cb, rfl, _, _, hb⟩ := hb
  have Ha := Lib.hid ha
  have Hb := Lib.hid hb
  clear ha hb
  by_cases hl : xs.length = ys.length
  · have hl0 : ((xs.length : Int) != (ys.length : Int)) = false := by rw [hl]; simp
    have hl1 : (xs.length != ys.length) = false := by rw [hl]; simp
    have HL := Lib.hid hl
    clear hl
    go_enter Try.func16, Try.ntmps16
    go_wp2
    go_loopw [5] (fun v wr => SameTo xs ys w v wr) (fun v _ => xs.length - (intOf v).toNat)
    case atStart => exact ⟨0, 0, by omega, rfl, by simp, rfl⟩
    case round =>
      obtain ⟨k, m, hk, rfl, hrel, rfl⟩ := hrel
      have HR := Lib.hid hrel; clear hrel
      by_cases hlt : k < xs.length
      · have hlt2 : k < ys.length := by have := HL.out; omega
        obtain ⟨b1, o1, rfl, h1⟩ := Ha.out (by omega)
        obtain ⟨b2, o2, rfl, h2⟩ := Hb.out (by omega)
        have c1 : w.cell? ⟨b1, o1 + k, none⟩ = some (.int .u8 (xs[k].toNat : Int)) := h1 k _ (by simp [hlt, cellB])
        have c2 : w.cell? ⟨b2, o2 + k, none⟩ = some (.int .u8 (ys[k].toNat : Int)) := h2 k _ (by simp [hlt2, cellB])
        clear h1 h2
        by_cases hx : xs[k] = ys[k]
        · have e1 : ((xs[k].toNat : Int) != (ys[k].toNat : Int)) = false := by rw [hx]; simp
          have HX := Lib.hid hx; clear hx
          go_wp2
          go_quiet (fail)
          go_wp2
          go_roundw
          case rel => exact ⟨k + 1, m + nq, by omega, by go_num, by rw [List.take_succ_eq_append_getElem hlt, List.take_succ_eq_append_getElem hlt2, HR.out, HX.out], rfl⟩
          case measure => simp [intOf]; omega
        · have e1 : ((xs[k].toNat : Int) != (ys[k].toNat : Int)) = true := by rw [byte_ne]; simpa using hx
          have HX := Lib.hid hx; clear hx
          go_wp2
          go_quiet (fail)
          go_wp2
          go_ret
          exact ⟨ret_b (b := false) (decide_eq_false fun e => by subst e; exact HX.out rfl).symm, m + nq, drewN2 _ _ _⟩
      · go_wp2
        go_ret
        have h1 := HR.out
        have := HL.out
        rw [List.take_of_length_le (by omega), List.take_of_length_le (by omega)] at h1
        exact ⟨ret_b (b := true) (decide_eq_true h1).symm, m, rfl⟩
  · have hl0 : ((xs.length : Int) != (ys.length : Int)) = true := by simp; omega
    have hl1 : (xs.length != ys.length) = true := by simpa using hl
    go_enter Try.func16, Try.ntmps16
    go_wp2
    go_ret
    exact ⟨ret_b (b := false) (decide_eq_false fun e => by subst e; exact hl rfl).symm, 0, rfl⟩

/-- Fill's bytes -/
def fillB (n : Int) (i : Nat) : UInt8 := UInt8.ofNat (((n / 2 ^ (8 * (i % 4)) + i) % 256).toNat)
def fillL (n : Int) (size : Int) : List UInt8 := if size ≤ 300 then (List.range size.toNat).map (fillB n) else []

def FillTo (n size : Int) (w : World) (Fr : HL) (v i : Value) (wr : World) : Prop :=
  ∃ (k : Nat) (H : HL), k ≤ 300 ∧ i = .int .i64 k ∧ (k : Int) ≤ max size 0 ∧ (300 < size → k = 0) ∧ IsBytes v ((List.range k).map (fillB n)) H ∧ Holds wr (H ++ Fr) ∧ Grew w wr

theorem fill_step {n size : Int} {w wr w' : World} {Fr H' : HL} {k : Nat} {v' : Value} (hs : size ≤ 300) (hk : (k : Int) < size) (hg : Grew w wr)
    (hrow : IsRow 5 1 v' (k + 1) (((List.range k).map (fillB n)).map cellB ++ [Value.int IntKind.u8 ((n / 2 ^ (8 * (k % 4)) + (k : Int)) % 256)]) H')
    (hH2 : Holds w' (H' ++ Fr)) {o : Obj} (hg2 : Grew (wr.alloc o) w') : FillTo n size w Fr v' (.int .i64 ((k : Int) + 1)) w' := by
  refine ⟨k + 1, H', by omega, by go_num, by omega, fun h => by omega, ?_, hH2, (hg.alloc o).trans hg2⟩
  have e : [Value.int IntKind.u8 ((n / 2 ^ (8 * (k % 4)) + (k : Int)) % 256)] = [cellB (fillB n k)] := by
    have h0 : 0 ≤ (n / 2 ^ (8 * (k % 4)) + (k : Int)) % 256 ∧ (n / 2 ^ (8 * (k % 4)) + (k : Int)) % 256 < 256 := by omega
    have h1 : ((fillB n k).toNat : Int) = (n / 2 ^ (8 * (k % 4)) + (k : Int)) % 256 := by
      unfold fillB
      generalize (n / 2 ^ (8 * (k % 4)) + (k : Int)) % 256 = r at h0 ⊢
      obtain ⟨r, rfl⟩ := Int.eq_ofNat_of_zero_le h0.1
      simp only [Int.toNat_natCast, UInt8.toNat_ofNat']
      omega
    simp only [cellB, h1]
  rw [e] at hrow
  unfold IsBytes
  rw [List.range_succ, List.map_append]
  simpa using hrow

set_option maxHeartbeats 400000 in
theorem fill_any (n size : Int) (w : World) (Fr : HL) (hH : Holds w Fr) (hs : size ≤ 9223372036854775807) :
    Calls Try.prog 11 #[.int .i64 n, .int .i64 size] w (RetNew (fun v H => IsBytes v (fillL n size) H) w Fr) := by
  go_enter Try.func11, Try.ntmps11
  go_wp2
  go_loopw [5, 6] (fun v i wr => FillTo n size w Fr v i wr) (fun _ i _ => size.toNat - (intOf i).toNat)
  case atStart => exact ⟨0, [], by omega, rfl, by omega, fun _ => rfl, IsRow.nil _ _, hH, Grew.refl w⟩
  case round =>
    obtain ⟨k, H, hk, rfl, hm, h300, hb, hH', hg⟩ := hrel
    have HB := Lib.hid hb; clear hb
    have HM := Lib.hid hm; clear hm
    have HQ := Lib.hid h300; clear h300
    by_cases h1 : (k : Int) < size
    · by_cases h2 : size ≤ 300
      · go_wp2_with (at_builtin; refine wpList_append_T tBytes (by rfl) (.tmp 16) (.tmp 26) (by rfl) (by rfl) (by rfl) HB.out (hH'.alloc' _) ReadsAt.one (by simp [Value.oneCell']) (by simp [maxLen]; omega) (by simp; omega) ?_; intro A' c' w' H' hrow hH2 hg2)
        simp only [List.length_map, List.length_range] at hrow
        exact ⟨fill_step h2 h1 hg hrow hH2 hg2, by simp [intOf]; omega⟩
      · go_wp2
        go_ret
        have hk0 := HQ.out (by omega)
        subst hk0
        exact ⟨_, H, rfl, by unfold fillL; rw [if_neg (by omega)]; exact HB.out, hH', hg⟩
    · go_wp2
      go_ret
      refine ⟨_, H, rfl, ?_, hH', hg⟩
      have hm := HM.out
      have hk0 := HQ.out
      unfold fillL
      have : size.toNat = k := by omega
      rw [if_pos (by omega), this]
      exact HB.out

/-- Low's number -/
def lowI (x n : Int) : Int := wrap64 ((IntKind.u64.wrap x).tmod n)
theorem low_bd (x n : Int) (hn : 1 ≤ n) (hn2 : n ≤ 9223372036854775807) : 0 ≤ lowI x n ∧ lowI x n < n := by
  have h0 : 0 ≤ IntKind.u64.wrap x := by simp [IntKind.wrap, IntKind.signed, IntKind.bits]; omega
  have h1 : (IntKind.u64.wrap x).tmod n = (IntKind.u64.wrap x) % n := Int.tmod_eq_emod_of_nonneg h0
  have h2 := Int.emod_nonneg (IntKind.u64.wrap x) (show n ≠ 0 by omega)
  have h3 := Int.emod_lt_of_pos (IntKind.u64.wrap x) (show 0 < n by omega)
  have h4 : lowI x n = (IntKind.u64.wrap x) % n := by
    unfold lowI
    rw [h1]
    generalize (IntKind.u64.wrap x) % n = r at h2 h3
    unfold wrap64; omega
  omega

set_option maxHeartbeats 400000 in
theorem low_any (x n : Int) (w : World) (hn : 1 ≤ n) (hn2 : n ≤ 9223372036854775807) :
    Calls Try.prog 8 #[.int .i64 x, .int .i64 n] w fun e w' => e = .returned (.int .i64 (lowI x n)) ∧ w = w' := by
  go_enter Try.func8, Try.ntmps8
  go_wp2
  go_ret
  exact ⟨rfl, rfl⟩

/-- OverBytes, in the midst -/
def OverTo (v : Value) (n : Nat) (w : World) (Fr : HL) (i : Value) (wr : World) : Prop :=
  ∃ (k : Nat) (ys : List Value) (H : HL), k ≤ n ∧ i = .int .i64 k ∧ IsRow 5 1 v n ys H ∧ (∀ y ∈ ys, y.oneCell' = true) ∧ Holds wr (H ++ Fr) ∧ Grew w wr

def LendTo (g n : Nat) (xs : List UInt8) (w : World) (Fr : HL) (i : Value) (wr : World) : Prop :=
  ∃ (k : Nat) (cs : Array Value), k ≤ 3 ∧ i = .int .i64 k ∧ cs.size = n + 3 ∧ cs.toList.take n = xs.map cellB ∧ Holds wr ((g, .cells cs 5) :: Fr) ∧ Grew w wr

end Go.Proofs.Ytinfbpldgobmfaa
