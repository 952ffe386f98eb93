/-
  slices.Sort of uint64s as a contract in terms of blocks.
-/
import Derived.Test.YtinfbpldgobmfaaSu15
import Derived.Test.YtinfbpldgobmfaaBase
import Derived.Test.YtinfbpldgobmfaaTd0
namespace Go.Proofs.Ytinfbpldgobmfaa
open Go.RowKit

def IsWs (v : Value) (zs : List Int) (H : HL) : Prop := IsRow 26 1 v zs.length (zs.map (Value.int .u64)) H
def WsAt (w : World) (v : Value) (zs : List Int) : Prop := ReadsAt w 1 v zs.length (zs.map (Value.int .u64))
def FrWs (Fr : HL) (v : Value) (zs : List Int) : Prop := ∀ w, Holds w Fr → WsAt w v zs
theorem IsWs.at_ {v : Value} {zs : List Int} {H Fr : HL} {w : World} (h : IsWs v zs H) (hH : Holds w (H ++ Fr)) : WsAt w v zs := IsRow.reads h hH
theorem IsWs.val {v : Value} {zs : List Int} {H : HL} (h : IsWs v zs H) : ∃ A c, v = .slice A zs.length c := IsRow.val h

theorem putCells_size (xs : Array Int) (c : Array Value) : (Go.Sort.putCells (Value.int .u64) 0 xs c).size = c.size := by unfold Go.Sort.putCells; simp
theorem putCells_take (xs : List Int) (c : Array Value) (h : xs.length ≤ c.size) : (Go.Sort.putCells (Value.int .u64) 0 xs.toArray c).toList.take xs.length = xs.map (Value.int .u64) := by
  apply List.ext_getElem
  · simp [Go.Sort.putCells]; omega
  · intro i h1 h2
    have hi : i < xs.length := by simpa using h2
    simp [Go.Sort.putCells, hi]
theorem putRow_row {w : World} {g : Nat} {cur : Array Value} {t : TypeId} {fz : Nat × Nat} {H : HL} (n : Nat) (os : Array Obj) (xs : Array Int) (hH : Holds w ((g, .cells cur t fz) :: H)) :
    Holds (Go.Sort.grow (Go.Sort.putRow (Value.int .u64) (Go.Sort.ahead w n) g 0 xs) os) ((g, .cells (Go.Sort.putCells (Value.int .u64) 0 xs cur) t fz) :: H) ∧
      Grew w (Go.Sort.grow (Go.Sort.putRow (Value.int .u64) (Go.Sort.ahead w n) g 0 xs) os) := by
  have hheap : (Go.Sort.grow (Go.Sort.putRow (Value.int .u64) (Go.Sort.ahead w n) g 0 xs) os).heap = w.heap.modify g (Go.Sort.onCells (Go.Sort.putCells (Value.int .u64) 0 xs)) ++ os := rfl
  refine ⟨⟨fun c => ?_, fun p hp => ?_⟩, ⟨rfl, rfl, rfl, ?_⟩⟩
  · have := hH.one c; rw [keyc_cons] at this ⊢; exact this
  · rw [hheap]
    rcases List.mem_cons.1 hp with rfl | hp
    · have hg := hH.get (List.mem_cons_self)
      have hlt := (Array.getElem?_eq_some_iff.1 hg).1
      rw [Array.getElem?_append_left (by simpa using hlt), Array.getElem?_modify, if_pos rfl, hg]
      rfl
    · have hne := Holds.apart (A := [(g, Obj.cells cur t fz)]) (B := H) (by simpa using hH) (List.mem_singleton.2 rfl) hp
      have hm := hH.mem p (List.mem_cons_of_mem _ hp)
      have hlt := (Array.getElem?_eq_some_iff.1 hm).1
      rw [Array.getElem?_append_left (by simpa using hlt), Array.getElem?_modify, if_neg hne, hm]
  · rw [hheap]; simp

theorem sort64_any (v : Value) (zs : List Int) (H Fr : HL) (w : World) (hv : IsWs v zs H) (hH : Holds w (H ++ Fr)) (hsm : zs.length ≤ 1000000) :
    Calls Try.prog 54 #[v] w (RetUpd (fun H' => IsWs v (srt zs) H') (.tuple #[]) w Fr) := by
  unfold IsWs at *
  rcases hv with ⟨hl, ⟨rfl, h0, rfl⟩ | ⟨g, cap, cur, fz, rfl, hn, hc, hs, ht, hf, rfl⟩⟩
  · obtain rfl : zs = [] := List.length_eq_zero_iff.1 h0
    refine (U64.Sort_int_nil none 0 w).mono ?_
    rintro e w' ⟨rfl, rfl⟩
    exact ⟨rfl, [], by simpa [srt] using IsRow.nil _ _, hH, Grew.refl _⟩
  · rw [Nat.mul_one] at hl hs ht
    have hG : Go.Sort.Holds (Value.int .u64) w g 0 zs.toArray := fun j hj => by
      have hj' : j < zs.length := by simpa using hj
      refine ⟨?_, ?_⟩
      · rw [Nat.zero_add, hH.cell (t := 26) (cs := cur) (fz := fz) (by simp)]
        have h1 : (cur.toList.take zs.length)[j]? = (zs.map (Value.int .u64))[j]? := by rw [ht]
        rw [List.getElem?_take, if_pos hj'] at h1
        rw [← Array.getElem?_toList, h1]
        simp [hj']
      · rw [Nat.zero_add]
        exact frozen_of_block (t := 26) (cs := cur) (fz := fz) (hH.get (by simp)) hf (by omega)
    unfold maxLen at hc
    refine (U64.slices_Sort g 0 cap zs w hG (hH.lt (p := (g, .cells cur 26 fz)) (by simp)) (by omega)).mono ?_
    rintro e w' ⟨rfl, n, os, rfl⟩
    obtain ⟨h1, h2⟩ := putRow_row (g := g) (cur := cur) (t := 26) (fz := fz) (H := Fr) n os (srt zs).toArray (by simpa using hH)
    refine ⟨rfl, [(g, .cells (Go.Sort.putCells (Value.int .u64) 0 (srt zs).toArray cur) 26 fz)], ?_, h1, h2⟩
    have e1 := putCells_take (srt zs) cur (by rw [srt_length]; omega)
    rw [srt_length] at e1
    refine ⟨by simp, .inr ⟨g, cap, _, fz, by rw [srt_length], by rw [srt_length]; exact hn, by unfold maxLen; exact hc, by rw [putCells_size]; omega, ?_, by rw [putCells_size]; exact hf, rfl⟩⟩
    rw [Nat.mul_one, srt_length]
    exact e1
end Go.Proofs.Ytinfbpldgobmfaa
