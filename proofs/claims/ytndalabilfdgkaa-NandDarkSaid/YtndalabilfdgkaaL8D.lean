/-
  NandDark: the walk.
-/
import Derived.Test.YtndalabilfdgkaaL8DE
import Derived.Test.YtndalabilfdgkaaL8DP
namespace Go.Proofs.Ytndalabilfdgkaa
open Go.RowKit
theorem byte_lit {n : Int} (h : (Lit.int .u8 n).wf = true) : ∃ u : UInt8, n = (u.toNat : Int) := by
  simp [Lit.wf, IntKind.min, IntKind.max, IntKind.signed, IntKind.bits] at h
  refine ⟨UInt8.ofNat n.toNat, ?_⟩
  rw [UInt8.toNat_ofNat_of_lt' (by show n.toNat < 256; omega)]
  omega
theorem ndark_walk (n by0 z : Int) (er : Bool) (w : World) (hz : ∃ u : UInt8, z = (u.toNat : Int)) :
    Calls Try.prog 5 #[.int .i64 n, .int .i64 by0, .int .u8 z, .bool er] w (RetFr (.bool true) w (allOf w)) := by
  obtain ⟨u, rfl⟩ := hz
  cases er
  · exact ndark_prog n by0 u w
  · exact ndark_erase n by0 u w
end Go.Proofs.Ytndalabilfdgkaa
