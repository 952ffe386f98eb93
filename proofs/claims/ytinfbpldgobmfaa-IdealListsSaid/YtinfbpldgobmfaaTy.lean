/-
  The types of the program that the walks meet: closed facts.
-/
import Derived.Test.YtinfbpldgobmfaaRows
import Derived.Test.YtinfbpldgobmfaaArr
import Derived.WalkKit
import Derived.KernelRfl
namespace Go.Proofs.Ytinfbpldgobmfaa
open Go.RowKit

theorem tBytes : SlT Try.prog 28 5 1 1 (.int .u8 0) := SlT.mk' (by kernel_rfl) (by kernel_rfl) (by rfl) (by decide)
theorem tInts : SlT Try.prog 56 3 1 8 (.int .i64 0) := SlT.mk' (by kernel_rfl) (by kernel_rfl) (by rfl) (by decide)
/-- a byte's cell, a text's value -/
def cellB (x : UInt8) : Value := .int .u8 (x.toNat : Int)
def strV (bs : List UInt8) : Value := .string ⟨bs.toArray⟩
def BytesAt (w : World) (v : Value) (bs : List UInt8) : Prop := ReadsAt w 1 v bs.length (bs.map cellB)
def IsBytes (v : Value) (bs : List UInt8) (H : HL) : Prop := IsRow 5 1 v bs.length (bs.map cellB) H

section
variable {P : Program}
/-- make of bytes, strings out of bytes, bytes out of strings -/
theorem run_makeT {t e : TypeId} {size bytes : Nat} {z : Value} (hT : SlT P t e size bytes z) (kl kc : IntKind) (l c : Int) (h0 : 0 ≤ l) (hlc : l ≤ c) (hc : c * bytes ≤ 281474976710656) (h63 : c ≤ 9223372036854775807) (w : World) :
    (Instr.makeSlice t (.int kl l) (.int kc c)).run P w = .ok (.slice (some ⟨w.heap.size, 0, none⟩) l.toNat c.toNat) (w.alloc (.cells (madeCells z.cells (c.toNat * size)) e)) := by
  obtain ⟨i, hi, hz, hs, hb⟩ := hT.info
  subst hs; subst hb
  exact run_make w t e i z hT.under hi hz kl kc l c h0 hlc (by rw [Int.mul_comm]; exact hc) h63

/-- make, of a number -/
theorem run_makeN {t e : TypeId} {size bytes : Nat} {z : Value} (hT : SlT P t e size bytes z) (l c : Nat) (hlc : l ≤ c) (hc : c * bytes ≤ 281474976710656) (h63 : c ≤ maxLen) (w : World) :
    (Instr.makeSlice t (.int .i64 (l : Int)) (.int .i64 (c : Int))).run P w = .ok (.slice (some ⟨w.heap.size, 0, none⟩) l c) (w.alloc (.cells (madeCells z.cells (c * size)) e)) := by
  have := run_makeT hT .i64 .i64 l c (by omega) (by omega) (by have h := Int.ofNat_le.2 hc; rw [Int.natCast_mul] at h; exact h) (by simp only [maxLen] at h63; omega) w
  simp only [Int.toNat_natCast] at this
  exact this
theorem made_size {z : Value} {n : Nat} : (madeCells z.cells n).size = n := by simp [madeCells]

theorem cellB_bytes (bs : List UInt8) : (bs.map fun x => ((x.toNat : Int))).map (fun n => UInt8.ofNat n.toNat) = bs := by
  rw [List.map_map]
  conv => rhs; rw [← List.map_id bs]
  apply List.map_congr_left
  intro x _
  simp

/-- string(b): what is read -/
theorem run_string {src e dst : TypeId} (hs : P.underlying src = some (.slice e)) (he : P.underlying e = some (.int .u8)) (hd : P.underlying dst = some .string) {w : World} {v : Value} {bs : List UInt8} (h : BytesAt w v bs) :
    (convert src dst v).run P w = .ok (strV bs) w := by
  obtain ⟨hl, A, c, rfl, hn, hc, h1⟩ := h
  rcases Nat.eq_zero_or_pos bs.length with h0 | h0
  · have : bs = [] := List.eq_nil_of_length_eq_zero h0
    subst this
    cases A with
    | none => exact run_convert_bytes_nil (P := P) w src e hs he 0 c dst hd
    | some ad =>
      rw [run_convert_bytes_string w src dst e _ _ c hs he hd]
      simp [Conv.bytesToString, loadCells, loadCellsFrom, strV]
      rfl
  · obtain ⟨b, o, rfl, h2⟩ := h1 h0
    have := run_convert_bytes_arg (P := P) w src e hs he b o bs.length c (bs.map fun x => (x.toNat : Int)) (by simp) (fun i hi => by
      have hx : (bs.map cellB)[i]? = some (cellB bs[i]) := by simp [hi]
      rw [h2 i _ hx]
      simp [cellB, List.getD, hi]) dst hd
    rw [this, strOfNums, cellB_bytes]
    rfl
end

/-- make([]byte, n), and what it holds -/
theorem make_bytes (n : Nat) (hn : n ≤ 1000000) : ∃ cs : Array Value, cs.toList = (List.replicate n (0 : UInt8)).map cellB ∧ cs.size = n ∧
    ∀ w : World, (Instr.makeSlice 28 (.int .i64 (n : Int)) (.int .i64 (n : Int))).run Try.prog w = .ok (.slice (some ⟨w.heap.size, 0, none⟩) n n) (w.alloc (.cells cs 5)) := by
  refine ⟨madeCells #[.int .u8 0] n, ?_, by simp [madeCells], fun w => ?_⟩
  · apply List.ext_getElem
    · simp [madeCells]
    · intro i h1 h2
      simp [madeCells, cellB, Nat.mod_one]
  · have := run_makeN (P := Try.prog) tBytes n n (Nat.le_refl _) (by omega) (by simp [maxLen]; omega) w
    rw [Nat.mul_one] at this
    exact this

/-- []byte(s) -/
theorem run_bytes {src dst e : TypeId} (hs : Try.prog.underlying src = some .string) (hd : Try.prog.underlying dst = some (.slice e)) (he : Try.prog.underlying e = some (.int .u8)) (w : World) (bs : List UInt8) (hb : bs.length ≤ maxLen) :
    ∃ cap cs fz, (convert src dst (.string ⟨bs.toArray⟩)).run Try.prog w = .ok (.slice (some ⟨w.heap.size, 0, none⟩) bs.length cap) (w.drew.alloc (.cells cs e fz)) ∧
      IsRow e 1 (.slice (some ⟨w.heap.size, 0, none⟩) bs.length cap) bs.length (bs.map cellB) [(w.heap.size, .cells cs e fz)] := by
  have h := run_bytes_of_string (P := Try.prog) w src dst e ⟨bs.toArray⟩ hs hd he
  have hz : (⟨bs.toArray⟩ : ByteArray).size = bs.length := by simp [ByteArray.size]
  rw [hz] at h
  have hc := grownCap_bd w bs.length 0 e hb
  generalize grownCap w bs.length 0 e = cap at h hc
  have hsz : (bytesRow ⟨bs.toArray⟩ cap).size = cap := by simp [bytesRow, hz]; omega
  refine ⟨cap, _, _, h, by simp, .inr ⟨w.heap.size, cap, _, _, rfl, hc.1, hc.2, by rw [hsz]; omega, ?_, okfz_str _, rfl⟩⟩
  simp [bytesRow, cellB]

section
variable {w w' : World} {v : Value} {bs : List UInt8} {H Fr : HL}
theorem IsBytes.at_ (h : IsBytes v bs H) (hH : Holds w (H ++ Fr)) : BytesAt w v bs := IsRow.reads h hH
theorem BytesAt.keep (h : BytesAt w v bs) (hk : ∀ p u, w.cell? p = some u → w'.cell? p = some u) : BytesAt w' v bs := ReadsAt.keep h hk
theorem IsBytes.val (h : IsBytes v bs H) : ∃ A c, v = .slice A bs.length c := IsRow.val h
theorem BytesAt.val (h : BytesAt w v bs) : ∃ A c, v = .slice A bs.length c := by
  obtain ⟨_, A, c, hv, _⟩ := h; exact ⟨A, c, hv⟩
end

/-- bytes that lie in what stands by -/
def FrBytes (Fr : HL) (v : Value) (bs : List UInt8) : Prop := ∀ w, Holds w Fr → BytesAt w v bs
theorem IsBytes.fr {v : Value} {bs : List UInt8} {H Fr : HL} (h : IsBytes v bs H) (hm : ∀ p, p ∈ H → p ∈ Fr) (hc : ∀ b, keyc b H ≤ keyc b Fr) : FrBytes Fr v bs :=
  fun w hw => h.at_ (Fr := []) (by simpa using hw.sub hm hc)
theorem FrBytes.left {v : Value} {bs : List UInt8} {A B : HL} (h : FrBytes A v bs) : FrBytes (A ++ B) v bs := fun w hw => h w hw.left
theorem FrBytes.right {v : Value} {bs : List UInt8} {A B : HL} (h : FrBytes B v bs) : FrBytes (A ++ B) v bs := fun w hw => h w hw.right

/-- returned a value; no memory touched -/
def RetQ (w : World) (v : Value) (e : Ending) (w' : World) : Prop := e = .returned v ∧ ∃ k, w' = w.drewN k

/-- returned a value that owns memory, beside what there was -/
def RetNew (R : Value → HL → Prop) (w : World) (Fr : HL) (e : Ending) (w' : World) : Prop := ∃ v H, e = .returned v ∧ R v H ∧ Holds w' (H ++ Fr) ∧ Grew w w'
/-- returned bytes and whether there are -/
def RetOpt (o : Option (List UInt8)) (w : World) (Fr : HL) (e : Ending) (w' : World) : Prop := ∃ v H, e = .returned (.tuple #[v, .bool o.isSome]) ∧ IsBytes v (o.getD []) H ∧ Holds w' (H ++ Fr) ∧ Grew w w'
/-- returned v, and what there was is as it was -/
def RetFr (v : Value) (w : World) (Fr : HL) (e : Ending) (w' : World) : Prop := e = .returned v ∧ Holds w' Fr ∧ Grew w w'
/-- returned v, and H has become something by R -/
def RetUpd (R : HL → Prop) (v : Value) (w : World) (Fr : HL) (e : Ending) (w' : World) : Prop := e = .returned v ∧ ∃ H, R H ∧ Holds w' (H ++ Fr) ∧ Grew w w'

theorem quietQ {P : Program} {f : FuncId} {args : Array Value} {w : World} {n : Nat} {v : Value} (h : Calls P f args (w.drewN n) (RetQ (w.drewN n) v)) :
    Calls P f args (w.drewN n) fun e w'' => e = .returned v ∧ ∃ m, w'' = w.drewN m := h.mono fun _ _ ⟨he, m, hm⟩ => ⟨he, n + m, by rw [hm, World.drewN_drewN]⟩
theorem quietS {P : Program} {f : FuncId} {args : Array Value} {w : World} {n : Nat} {v : Value} (h : Calls P f args (w.drewN n) fun e w' => e = .returned v ∧ w.drewN n = w') :
    Calls P f args (w.drewN n) fun e w'' => e = .returned v ∧ ∃ m, w'' = w.drewN m := h.mono fun _ _ ⟨he, hm⟩ => ⟨he, n, hm.symm⟩

theorem ret_b {b b' : Bool} (h : b = b') : Ending.returned (.bool b) = .returned (.bool b') := by rw [h]
theorem ret_i {k : IntKind} {a b : Int} (h : a = b) : Ending.returned (.int k a) = .returned (.int k b) := by rw [h]
theorem drewN2 (w : World) (m n : Nat) : (w.drewN m).drewN n = w.drewN (m + n) := World.drewN_drewN w m n

end Go.Proofs.Ytinfbpldgobmfaa
