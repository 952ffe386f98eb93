/-
  Slices of uint64s that come in.
-/
import Derived.Test.YtnophehonkojaaaOpen
import Derived.Test.YtnophehonkojaaaTdP
import Derived.Test.YtnophehonkojaaaSrt
namespace Go.Proofs.Ytnophehonkojaaa
open Go.ChangeShapes Go.WideShapes Go.ChangeAt Go.RowKit Go.Deep
theorem lit_u64 {n : Int} (h : (Lit.int .u64 n).wf = true) : 0 ≤ n ∧ n < 18446744073709551616 := by
  simp [Lit.wf, IntKind.min, IntKind.max, IntKind.signed, IntKind.bits] at h
  omega
theorem open_wordsV {H : Type} {enc : TypeId × Value → H} {W : World} {spare : Nat → Bool} {held : Bool} {v : Value} {d : DataW H} {p : List MemPlace} (hv : Value.okWide Try.prog W .any 0 48 v)
    (h : DataW.Trod enc Try.prog W 0 spare held 48 v d p) : ∃ zs : List Int, WsAt W v zs ∧ U64s zs := by
  obtain ⟨css, h1, h2⟩ := open_rows (size := 1) (Pc := fun cs => ∃ n : Int, cs = [.int .u64 n] ∧ (0 ≤ n ∧ n < 18446744073709551616)) Try.underlying48 (by kernel_rfl) (by omega) (fun fuel cs y _ hy => by
    obtain ⟨n, rfl, _, hw⟩ := DataW.trod_int Try.underlying26 hy
    exact ⟨n, rfl, lit_u64 hw⟩) hv h
  obtain ⟨zs, rfl, hz⟩ := choose_map (fun n : Int => [Value.int .u64 n]) (fun n => 0 ≤ n ∧ n < 18446744073709551616) css (fun c hc => (h2 c hc).2)
  refine ⟨zs, ?_, hz⟩
  rw [flat_single (Value.int .u64) zs] at h1
  unfold WsAt
  simpa using h1
end Go.Proofs.Ytnophehonkojaaa
