/-
  What more of the arguments that come in are, for the walks: bools.
-/
import Derived.Test.YtinfbpldgobmfaaOpen
namespace Go.Proofs.Ytinfbpldgobmfaa
open Go.ChangeShapes Go.WideShapes Go.ChangeAt Go.RowKit Go.Deep

theorem open_boolsV {H : Type} {enc : TypeId × Value → H} {P : Program} {W : World} {spare : Nat → Bool} {held : Bool} {t e : TypeId} (ht : P.underlying t = some (.slice e)) (he : P.underlying e = some .bool) (hC : P.cellsOf e = 1) {v : Value} {d : DataW H} {p : List MemPlace} (hv : Value.okWide P W .any 0 t v)
    (h : DataW.Trod enc P W 0 spare held t v d p) : ∃ bs : List Bool, ReadsAt W 1 v bs.length (bs.map Value.bool) := by
  obtain ⟨css, h1, h2⟩ := open_rows (Pc := fun cs => ∃ b : Bool, cs = [.bool b]) ht hC (by omega) (fun fuel cs y _ hy => by
    obtain ⟨b, rfl, _⟩ := DataW.trod_bool he hy
    exact ⟨b, rfl⟩) hv h
  obtain ⟨bs, rfl, _⟩ := choose_map (fun b : Bool => [Value.bool b]) (fun _ => True) css (fun c hc => by obtain ⟨b, hb⟩ := (h2 c hc).2; exact ⟨b, hb, trivial⟩)
  refine ⟨bs, ?_⟩
  rw [flat_single Value.bool bs] at h1
  simpa using h1
end Go.Proofs.Ytinfbpldgobmfaa
