/-
  slices.Sort: the worked walk of the kit (toy So, at int), turned to uint64.
-/
import Derived.Test.YtinfbpldgobmfaaProg
import Derived.Test.YtinfbpldgobmfaaSu14
import Derived.Test.YtinfbpldgobmfaaSuA
import Derived.Test.YtinfbpldgobmfaaSuA6
import Derived.Test.YtinfbpldgobmfaaSuC
import Derived.Test.YtinfbpldgobmfaaSuC4
import Derived.Test.YtinfbpldgobmfaaSu11
import Derived.Sort.AssemblyPlain
namespace Go.Proofs.Ytinfbpldgobmfaa
open Go.RowKit Go.Sort
set_option linter.unusedVariables false
set_option linter.unusedSimpArgs false

theorem U64.insertionSort_int_nil (p : Option Addr) (cap : Nat) (w : World) :
    Calls Try.prog 79 #[.slice p 0 cap, .int .i64 0, .int .i64 0] w fun e w' => e = .returned (.tuple #[]) ∧ w' = w := by
  go_enter Try.func79, Try.ntmps79
  go_wp2
  refine wp_loop_rounds 1 ?_
  rw [rounds_succ]
  go_wp2
  go_end0
  exact ⟨rfl, rfl⟩

set_option maxRecDepth 100000 in
theorem U64.pdqsort_int_nil (p : Option Addr) (cap : Nat) (w : World) :
    Calls Try.prog 74 #[.slice p 0 cap, .int .i64 0, .int .i64 0, .int .i64 0] w fun e w' => e = .returned (.tuple #[]) ∧ w' = w := by
  go_enter Try.func74, Try.ntmps74
  go_wp2
  refine wp_loop_rounds 1 ?_
  rw [rounds_succ]
  go_wp2_with (first | (go_at_call 79; refine (U64.insertionSort_int_nil p cap _).mono ?_; rintro e w' ⟨rfl, rfl⟩))
  refine bodyPost_ret (results_none rfl _ _ _) rfl ?_      -- an explicit 'return' in a function without results
  exact ⟨rfl, rfl⟩

set_option maxRecDepth 100000 in
theorem U64.Sort_int_nil (p : Option Addr) (cap : Nat) (w : World) :
    Calls Try.prog 54 #[.slice p 0 cap] w fun e w' => e = .returned (.tuple #[]) ∧ w' = w := by
  have hLen : ∀ w, Calls Try.prog 75 #[.int .u64 0] w fun e w' => e = .returned (.int .i64 0) ∧ w' = w := fun w => U64.bits_Len 0 w (by omega) (by omega)
  go_enter Try.func54, Try.ntmps54
  go_wp2_with (first
    | (go_at_call 75; refine (hLen _).mono ?_; rintro e w' ⟨rfl, rfl⟩)
    | (go_at_call 74; refine (U64.pdqsort_int_nil p cap _).mono ?_; rintro e w' ⟨rfl, rfl⟩))
  go_end0
  exact ⟨rfl, rfl⟩


theorem callees13u : Callees13 where
  ins := U64.insertionSort_int
  brk := U64.breakPatterns_int
  piv := U64.choosePivot_int
  par := U64.partialInsertionSort_int
  peq := U64.partitionEqualOrdered_int
  prt := U64.partitionOrdered_int
theorem plain13u : Plain13 where
  swo := swo_ltInt
  ins := insertionSort_holds
  par := partialInsertionSort_holds
  prt := partition_holds _
  peq := partitionEqual_holds _
  pdq := pdq_sorts _
theorem pdqWalkU : pdqWalk_int := fun blk off cap a b limit d w hH hb hab hbd hsz hl hB =>
  U64.pdqsort_int callees13u plain13u (b - a + 1) blk off cap a b limit d w (by omega) hH hb hab hbd hsz hl hB
theorem U64.slices_Sort (blk off cap : Nat) (zs : List Int) (w : World) (hH : Go.Sort.Holds (Value.int .u64) w blk off zs.toArray) (hblk : blk < w.heap.size) (hsz : zs.length < 4611686018427387904) :
    Calls Try.prog 54 #[.slice (some ⟨blk, off, none⟩) zs.length cap] w fun e w' =>
      e = .returned (.tuple #[]) ∧ ∃ n os, w' = grow (putRow (Value.int .u64) (Sort.ahead w n) blk off (zs.mergeSort fun x y => decide (x ≤ y)).toArray) os := by
  have h := U64.Sort_int pdqWalkU blk off cap zs.toArray w hH hblk (by simpa using hsz)
  have e : Sort.sort ltInt zs.toArray = (zs.mergeSort fun x y => decide (x ≤ y)).toArray := by rw [← sortInt zs]
  rw [e] at h
  simpa using h

end Go.Proofs.Ytinfbpldgobmfaa
