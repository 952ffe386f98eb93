/-
  Sorted lists of addresses: what sorting and dropping doubles make. No program in sight.
-/
import Derived.Test.YtinfbpldgobmfaaBase
import Derived.Lib.SlicesCompact
import Derived.Lib.SlicesSearch
namespace Go.Proofs.Ytinfbpldgobmfaa
def srt (zs : List Int) : List Int := zs.mergeSort fun x y => decide (x ≤ y)
theorem srt_length (zs : List Int) : (srt zs).length = zs.length := by simp [srt]
/-- the addresses, each once, rising -/
def onceU (zs : List Int) : List Int := Lib.compact (srt zs)
/-- the address behind the last one -/
def behindU (f : Int) (zs : List Int) : Int := match zs.getLast? with | some z => (z + 1) % 18446744073709551616 | none => f
end Go.Proofs.Ytinfbpldgobmfaa
