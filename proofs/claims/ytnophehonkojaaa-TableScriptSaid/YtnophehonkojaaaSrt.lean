/-
  slices.Sort of uint64s as a contract in terms of blocks.
-/
import Derived.Test.YtnophehonkojaaaSu15
import Derived.Test.YtnophehonkojaaaTy
import Derived.Test.YtnophehonkojaaaTd0
namespace Go.Proofs.Ytnophehonkojaaa
open Go.RowKit

def IsWs (v : Value) (zs : List Int) (H : HL) : Prop := IsRow 26 1 v zs.length (zs.map (Value.int .u64)) H
def WsAt (w : World) (v : Value) (zs : List Int) : Prop := ReadsAt w 1 v zs.length (zs.map (Value.int .u64))
def FrWs (Fr : HL) (v : Value) (zs : List Int) : Prop := ∀ w, Holds w Fr → WsAt w v zs
theorem IsWs.at_ {v : Value} {zs : List Int} {H Fr : HL} {w : World} (h : IsWs v zs H) (hH : Holds w (H ++ Fr)) : WsAt w v zs := IsRow.reads h hH
theorem IsWs.val {v : Value} {zs : List Int} {H : HL} (h : IsWs v zs H) : ∃ A c, v = .slice A zs.length c := IsRow.val h

theorem putCells_size (xs : Array Int) (c : Array Value) : (Go.Sort.putCells (Value.int .u64) 0 xs c).size = c.size := by unfold Go.Sort.putCells; simp
theorem putCells_take (xs : List Int) (c : Array Value) (h : xs.length ≤ c.size) : (Go.Sort.putCells (Value.int .u64) 0 xs.toArray c).toList.take xs.length = xs.map (Value.int .u64) := by
  apply List.ext_getElem
  · simp [Go.Sort.putCells]; omega
  · intro i h1 h2
    have hi : i < xs.length := by simpa using h2
    simp [Go.Sort.putCells, hi]
theorem putRow_row {w : World} {g : Nat} {cur : Array Value} {t : TypeId} {fz : Nat × Nat} {H : HL} (n : Nat) (os : Array Obj) (xs : Array Int) (hH : Holds w ((g, .cells cur t fz) :: H)) :
    Holds (Go.Sort.grow (Go.Sort.putRow (Value.int .u64) (Go.Sort.ahead w n) g 0 xs) os) ((g, .cells (Go.Sort.putCells (Value.int .u64) 0 xs cur) t fz) :: H) ∧
      Grew w (Go.Sort.grow (Go.Sort.putRow (Value.int .u64) (Go.Sort.ahead w n) g 0 xs) os) := by
  have hheap : (Go.Sort.grow (Go.Sort.putRow (Value.int .u64) (Go.Sort.ahead w n) g 0 xs) os).heap = w.heap.modify g (Go.Sort.onCells (Go.Sort.putCells (Value.int .u64) 0 xs)) ++ os := rfl
  refine ⟨⟨fun c => ?_, fun p hp => ?_⟩, ⟨rfl, rfl, rfl, ?_⟩⟩
  · have := hH.one c; rw [keyc_cons] at this ⊢; exact this
  · rw [hheap]
    rcases List.mem_cons.1 hp with rfl | hp
    · have hg := hH.get (List.mem_cons_self)
      have hlt := (Array.getElem?_eq_some_iff.1 hg).1
      rw [Array.getElem?_append_left (by simpa using hlt), Array.getElem?_modify, if_pos rfl, hg]
      rfl
    · have hne := Holds.apart (A := [(g, Obj.cells cur t fz)]) (B := H) (by simpa using hH) (List.mem_singleton.2 rfl) hp
      have hm := hH.mem p (List.mem_cons_of_mem _ hp)
      have hlt := (Array.getElem?_eq_some_iff.1 hm).1
      rw [Array.getElem?_append_left (by simpa using hlt), Array.getElem?_modify, if_neg hne, hm]
  · rw [hheap]; simp

end Go.Proofs.Ytnophehonkojaaa
