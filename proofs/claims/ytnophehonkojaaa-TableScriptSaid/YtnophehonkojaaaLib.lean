/-
  The laws' own helpers (scullerylaw0): Low, SameBytes, Fill, LendBytes, OverBytes.
-/
import Derived.Test.YtnophehonkojaaaTy
import Derived.Deep.QuietTactic
import Derived.BigQuiet
import Derived.Deep.RegionHeld3
import Derived.Deep.RegionLaw
import Derived.Deep.DrawnRows
import Derived.StillTailTactics
import Derived.Test.YtnophehonkojaaaOrd
import Derived.Deep.LoopGhost
import Derived.WalkLawsBesides
import Derived.WalkSpells
import Derived.Lib.Hide
namespace Go.Proofs.Ytnophehonkojaaa
open Go.RowKit
set_option linter.unusedSimpArgs false
set_option linter.unusedVariables false

/-- what is so of the first k, for the loop -/
def SameTo (xs ys : List UInt8) (w : World) (v : Value) (wr : World) : Prop := ∃ k m : Nat, k ≤ xs.length ∧ v = .int .i64 k ∧ xs.take k = ys.take k ∧ wr = w.drewN m

theorem byte_ne (x y : UInt8) : ((x.toNat : Int) != (y.toNat : Int)) = decide (x ≠ y) := by
  by_cases h : x = y
  · subst h; simp
  · have : (x.toNat : Int) ≠ (y.toNat : Int) := fun e => h (UInt8.toNat_inj.1 (by omega))
    simp [h, this]

/-- Fill's bytes -/
def fillB (n : Int) (i : Nat) : UInt8 := UInt8.ofNat (((n / 2 ^ (8 * (i % 4)) + i) % 256).toNat)
def fillL (n : Int) (size : Int) : List UInt8 := if size ≤ 300 then (List.range size.toNat).map (fillB n) else []

def FillTo (n size : Int) (w : World) (Fr : HL) (v i : Value) (wr : World) : Prop :=
  ∃ (k : Nat) (H : HL), k ≤ 300 ∧ i = .int .i64 k ∧ (k : Int) ≤ max size 0 ∧ (300 < size → k = 0) ∧ IsBytes v ((List.range k).map (fillB n)) H ∧ Holds wr (H ++ Fr) ∧ Grew w wr

theorem fill_step {n size : Int} {w wr w' : World} {Fr H' : HL} {k : Nat} {v' : Value} (hs : size ≤ 300) (hk : (k : Int) < size) (hg : Grew w wr)
    (hrow : IsRow 5 1 v' (k + 1) (((List.range k).map (fillB n)).map cellB ++ [Value.int IntKind.u8 ((n / 2 ^ (8 * (k % 4)) + (k : Int)) % 256)]) H')
    (hH2 : Holds w' (H' ++ Fr)) {o : Obj} (hg2 : Grew (wr.alloc o) w') : FillTo n size w Fr v' (.int .i64 ((k : Int) + 1)) w' := by
  refine ⟨k + 1, H', by omega, by go_num, by omega, fun h => by omega, ?_, hH2, (hg.alloc o).trans hg2⟩
  have e : [Value.int IntKind.u8 ((n / 2 ^ (8 * (k % 4)) + (k : Int)) % 256)] = [cellB (fillB n k)] := by
    have h0 : 0 ≤ (n / 2 ^ (8 * (k % 4)) + (k : Int)) % 256 ∧ (n / 2 ^ (8 * (k % 4)) + (k : Int)) % 256 < 256 := by omega
    have h1 : ((fillB n k).toNat : Int) = (n / 2 ^ (8 * (k % 4)) + (k : Int)) % 256 := by
      unfold fillB
      generalize (n / 2 ^ (8 * (k % 4)) + (k : Int)) % 256 = r at h0 ⊢
      obtain ⟨r, rfl⟩ := Int.eq_ofNat_of_zero_le h0.1
      simp only [Int.toNat_natCast, UInt8.toNat_ofNat']
      omega
    simp only [cellB, h1]
  rw [e] at hrow
  unfold IsBytes
  rw [List.range_succ, List.map_append]
  simpa using hrow

/-- Low's number -/
def lowI (x n : Int) : Int := wrap64 ((IntKind.u64.wrap x).tmod n)
theorem low_bd (x n : Int) (hn : 1 ≤ n) (hn2 : n ≤ 9223372036854775807) : 0 ≤ lowI x n ∧ lowI x n < n := by
  have h0 : 0 ≤ IntKind.u64.wrap x := by simp [IntKind.wrap, IntKind.signed, IntKind.bits]; omega
  have h1 : (IntKind.u64.wrap x).tmod n = (IntKind.u64.wrap x) % n := Int.tmod_eq_emod_of_nonneg h0
  have h2 := Int.emod_nonneg (IntKind.u64.wrap x) (show n ≠ 0 by omega)
  have h3 := Int.emod_lt_of_pos (IntKind.u64.wrap x) (show 0 < n by omega)
  have h4 : lowI x n = (IntKind.u64.wrap x) % n := by
    unfold lowI
    rw [h1]
    generalize (IntKind.u64.wrap x) % n = r at h2 h3
    unfold wrap64; omega
  omega

set_option maxHeartbeats 400000 in
theorem low_any (x n : Int) (w : World) (hn : 1 ≤ n) (hn2 : n ≤ 9223372036854775807) :
    Calls Try.prog 13 #[.int .i64 x, .int .i64 n] w fun e w' => e = .returned (.int .i64 (lowI x n)) ∧ w = w' := by
  go_enter Try.func13, Try.ntmps13
  go_wp2
  go_ret
  exact ⟨rfl, rfl⟩

/-- OverBytes, in the midst -/
def OverTo (v : Value) (n : Nat) (w : World) (Fr : HL) (i : Value) (wr : World) : Prop :=
  ∃ (k : Nat) (ys : List Value) (H : HL), k ≤ n ∧ i = .int .i64 k ∧ IsRow 5 1 v n ys H ∧ (∀ y ∈ ys, y.oneCell' = true) ∧ Holds wr (H ++ Fr) ∧ Grew w wr

def LendTo (g n : Nat) (xs : List UInt8) (w : World) (Fr : HL) (i : Value) (wr : World) : Prop :=
  ∃ (k : Nat) (cs : Array Value), k ≤ 3 ∧ i = .int .i64 k ∧ cs.size = n + 3 ∧ cs.toList.take n = xs.map cellB ∧ Holds wr ((g, .cells cs 5) :: Fr) ∧ Grew w wr

end Go.Proofs.Ytnophehonkojaaa
