/-
  NandFails, NandDark: what the chip is, without the program.
-/
import Derived.Test.YtndalabilfdgkaaL8K
import Derived.Test.YtndalabilfdgkaaNd11
namespace Go.Proofs.Ytndalabilfdgkaa
open Go.RowKit
set_option linter.unusedSimpArgs false
set_option linter.unusedVariables false

/-- a chip of two blocks: block k is X, the other one Y; whether it is on, its operations, its misuse, its one mishap -/
structure DSt (c : CM) (P k : Nat) (X Y : CB) (o : Bool) (n m : Int) (M : Mi) : Prop where
  eP : c.P = P
  eZ : c.Z = 128
  len : c.blocks.length = 2
  lt : k < 2
  bX : c.blocks[k]? = some X
  bY : c.blocks[1 - k]? = some Y
  eo : c.on = o
  en : c.ops = n
  em : c.misuse = m
  ms : c.ms = [M]
section
variable {c : CM} {P k : Nat} {X Y : CB} {o : Bool} {n m : Int} {M : Mi}
theorem DSt.swap (h : DSt c P k X Y o n m M) : DSt c P (1 - k) Y X o n m M := by
  obtain ⟨h1, h2, h3, h4, h5, h6, h7, h8, h9, h10⟩ := h
  exact ⟨h1, h2, h3, by omega, h6, by rw [show 1 - (1 - k) = k by omega]; exact h5, h7, h8, h9, h10⟩
theorem DSt.put (h : DSt c P k X Y o n m M) {c' : CM} {X' : CB} {o' : Bool} {n' m' : Int} (hP : c'.P = c.P) (hZ : c'.Z = c.Z) (hb : c'.blocks = c.blocks.set k X') (hms : c'.ms = c.ms) (ho : c'.on = o') (hn : c'.ops = n') (hm : c'.misuse = m') :
    DSt c' P k X' Y o' n' m' M := by
  obtain ⟨h1, h2, h3, h4, h5, h6, h7, h8, h9, h10⟩ := h
  refine ⟨by rw [hP, h1], by rw [hZ, h2], by rw [hb, List.length_set, h3], h4, by rw [hb]; simp [h3, h4], by rw [hb, List.getElem?_set_ne (by omega)]; exact h6, ho, hn, hm, by rw [hms, h10]⟩
theorem DSt.same (h : DSt c P k X Y o n m M) {c' : CM} {o' : Bool} {n' m' : Int} (hP : c'.P = c.P) (hZ : c'.Z = c.Z) (hb : c'.blocks = c.blocks) (hms : c'.ms = c.ms) (ho : c'.on = o') (hn : c'.ops = n') (hm : c'.misuse = m') :
    DSt c' P k X Y o' n' m' M := by
  obtain ⟨h1, h2, h3, h4, h5, h6, h7, h8, h9, h10⟩ := h
  exact ⟨by rw [hP, h1], by rw [hZ, h2], by rw [hb, h3], h4, by rw [hb, h5], by rw [hb, h6], ho, hn, hm, by rw [hms, h10]⟩
theorem dst_new (hk : k < 2) : DSt (CM.new 2 P 128 [] [M]) P k (CB.new P 128 false) (CB.new P 128 false) true 0 0 M := by
  refine ⟨rfl, rfl, rfl, hk, ?_, ?_, rfl, rfl, rfl, rfl⟩
  · match k, hk with
    | 0, _ => rfl
    | 1, _ => rfl
  · match k, hk with
    | 0, _ => rfl
    | 1, _ => rfl
theorem DSt.mi (h : DSt c P k X Y o n m M) : c.mi = if M.at_ = n + 1 then M else Mi.zero := by
  unfold CM.mi miAt
  rw [h.ms, h.en]
  by_cases he : M.at_ = n + 1
  · rw [if_pos he]; simp [he]
  · rw [if_neg he]; simp [he]
theorem DSt.mi0 (h : DSt c P k X Y o n m M) (hn : M.at_ ≠ n + 1) : c.mi = Mi.zero := by rw [h.mi, if_neg hn]
theorem DSt.mi1 (h : DSt c P k X Y o n m M) (hn : M.at_ = n + 1) : c.mi = M := by rw [h.mi, if_pos hn]
theorem DSt.beg (h : DSt c P k X Y true n m M) : c.beg true = ({ c with ops := c.ops + 1 }, c.mi, 0) := by
  unfold CM.beg; rw [if_neg (by rw [h.eo]; decide), if_neg (by decide)]
theorem DSt.prog (h : DSt c P k X Y true n m M) {p : Nat} (hp : p < P) (raw : List UInt8) :
    c.prog k X (p : Int) raw = if X.mark = true ∨ (p : Int) ≠ X.next then ({ c with ops := c.ops + 1 } : CM).ord c.mi false else progEnd { c with ops := c.ops + 1 } c.mi k X p raw := by
  unfold CM.prog
  rw [show decide ((0 : Int) ≤ (p : Int) ∧ (p : Int) ≤ (c.P : Int) - 1) = true from decide_eq_true (by have := h.eP; omega), h.beg]
  simp
theorem DSt.erase (h : DSt c P k X Y true n m M) : c.erase k X = if X.mark = true then ({ c with ops := c.ops + 1 } : CM).ord c.mi false else eraseEnd { c with ops := c.ops + 1 } c.mi k X := by
  unfold CM.erase
  rw [h.beg]
  simp
/-- a page is programmed, nothing befalls -/
theorem DSt.progGood (h : DSt c P k X Y true n m M) {p : Nat} (hp : p < P) (raw : List UInt8) (hn : M.at_ ≠ n + 1) (hm : X.mark = false) (hx : X.next = (p : Int)) (hf : X.failed = false) :
    ∃ c', c.prog k X (p : Int) raw = (c', 0) ∧ DSt c' P k (X.put p raw raw.length) Y true (n + 1) m M := by
  rw [h.prog hp, if_neg (by rw [hm, hx]; simp), h.mi0 hn]
  unfold progEnd
  rw [if_neg (by decide), if_neg (by rw [hf]; decide), show progMany Mi.zero X raw.length = raw.length by unfold progMany; rw [hf]; rfl]
  exact ⟨_, rfl, h.put rfl rfl rfl rfl h.eo (by show c.ops + 1 = _; rw [h.en]) h.em⟩
/-- a failure befalls -/
theorem DSt.progFails (h : DSt c P k X Y true n m M) {p : Nat} (hp : p < P) (raw : List UInt8) (hn : M.at_ = n + 1) (hk : M.kind = 1) (hm : X.mark = false) (hx : X.next = (p : Int)) (hf : X.failed = false) :
    ∃ c', c.prog k X (p : Int) raw = (c', 5) ∧ DSt c' P k { X.put p raw (min M.bytes.toNat (raw.length - 1)) with failed := true } Y true (n + 1) m M := by
  rw [h.prog hp, if_neg (by rw [hm, hx]; simp), h.mi1 hn]
  unfold progEnd
  rw [if_neg (by rw [hk]; decide), if_pos (.inl hk), show progMany M X raw.length = min M.bytes.toNat (raw.length - 1) by unfold progMany; rw [hf, hk]; rfl]
  exact ⟨_, rfl, h.put rfl rfl rfl rfl h.eo (by show c.ops + 1 = _; rw [h.en]) h.em⟩
/-- the dark befalls -/
theorem DSt.progDark (h : DSt c P k X Y true n m M) {p : Nat} (hp : p < P) (raw : List UInt8) (hn : M.at_ = n + 1) (hk : M.kind = 2) (hm : X.mark = false) (hx : X.next = (p : Int)) (hf : X.failed = false) :
    ∃ c', c.prog k X (p : Int) raw = (c', 4) ∧ DSt c' P k (X.put p raw (min M.bytes.toNat raw.length)) Y false (n + 1) m M := by
  rw [h.prog hp, if_neg (by rw [hm, hx]; simp), h.mi1 hn]
  unfold progEnd
  rw [if_pos hk, show progMany M X raw.length = min M.bytes.toNat raw.length by unfold progMany; rw [hf, hk]; rfl]
  exact ⟨_, rfl, h.put rfl rfl rfl rfl rfl (by show c.ops + 1 = _; rw [h.en]) h.em⟩
/-- a block that failed fails -/
theorem DSt.progFailed (h : DSt c P k X Y true n m M) {p : Nat} (hp : p < P) (raw : List UInt8) (hn : M.at_ ≠ n + 1) (hm : X.mark = false) (hx : X.next = (p : Int)) (hf : X.failed = true) :
    ∃ c', c.prog k X (p : Int) raw = (c', 5) ∧ DSt c' P k { X.put p raw 0 with failed := true } Y true (n + 1) m M := by
  rw [h.prog hp, if_neg (by rw [hm, hx]; simp), h.mi0 hn]
  unfold progEnd
  rw [if_neg (by decide), if_pos (.inr hf), show progMany Mi.zero X raw.length = 0 by unfold progMany; rw [hf]; rfl]
  exact ⟨_, rfl, h.put rfl rfl rfl rfl h.eo (by show c.ops + 1 = _; rw [h.en]) h.em⟩
/-- a marked block is misused -/
theorem DSt.progMarked (h : DSt c P k X Y true n m M) {p : Nat} (hp : p < P) (raw : List UInt8) (hn : M.at_ ≠ n + 1) (hm : X.mark = true) :
    ∃ c', c.prog k X (p : Int) raw = (c', 6) ∧ DSt c' P k X Y true (n + 1) (m + 1) M := by
  rw [h.prog hp, if_pos (.inl hm), h.mi0 hn]
  unfold CM.ord
  rw [if_neg (by decide), if_neg (by decide)]
  exact ⟨_, rfl, h.same rfl rfl rfl rfl h.eo (by show c.ops + 1 = _; rw [h.en]) (by show c.misuse + 1 = _; rw [h.em])⟩
theorem DSt.eraseMarked (h : DSt c P k X Y true n m M) (hn : M.at_ ≠ n + 1) (hm : X.mark = true) :
    ∃ c', c.erase k X = (c', 6) ∧ DSt c' P k X Y true (n + 1) (m + 1) M := by
  rw [h.erase, if_pos hm, h.mi0 hn]
  unfold CM.ord
  rw [if_neg (by decide), if_neg (by decide)]
  exact ⟨_, rfl, h.same rfl rfl rfl rfl h.eo (by show c.ops + 1 = _; rw [h.en]) (by show c.misuse + 1 = _; rw [h.em])⟩
theorem DSt.eraseGood (h : DSt c P k X Y true n m M) (hn : M.at_ ≠ n + 1) (hm : X.mark = false) (hf : X.failed = false) :
    ∃ c', c.erase k X = (c', 0) ∧ DSt c' P k { X with pages := blankB P 128, next := 0, wear := X.wear + 1 } Y true (n + 1) m M := by
  rw [h.erase, if_neg (by rw [hm]; decide), h.mi0 hn]
  unfold eraseEnd
  rw [if_neg (by decide), if_neg (by rw [hf]; decide)]
  exact ⟨_, rfl, h.put rfl rfl (by show c.blocks.set k _ = _; rw [← h.eP, ← h.eZ]) rfl h.eo (by show c.ops + 1 = _; rw [h.en]) h.em⟩
theorem DSt.eraseFailed (h : DSt c P k X Y true n m M) (hn : M.at_ ≠ n + 1) (hm : X.mark = false) (hf : X.failed = true) :
    ∃ c', c.erase k X = (c', 5) ∧ DSt c' P k { X with failed := true } Y true (n + 1) m M := by
  rw [h.erase, if_neg (by rw [hm]; decide), h.mi0 hn]
  unfold eraseEnd
  rw [if_neg (by decide), if_pos (.inr hf)]
  exact ⟨_, rfl, h.put rfl rfl rfl rfl h.eo (by show c.ops + 1 = _; rw [h.en]) h.em⟩
theorem DSt.eraseDark (h : DSt c P k X Y true n m M) (hn : M.at_ = n + 1) (hk : M.kind = 2) (hm : X.mark = false) (hf : X.failed = false) :
    ∃ c', c.erase k X = (c', 4) ∧ DSt c' P k { X with pages := List.replicate P (List.replicate 156 M.fill), next := if M.fill = 255 then 0 else (P : Int), wear := X.wear + 1 } Y false (n + 1) m M := by
  rw [h.erase, if_neg (by rw [hm]; decide), h.mi1 hn]
  unfold eraseEnd
  rw [if_pos hk, if_neg (by rw [hf]; decide)]
  exact ⟨_, rfl, h.put rfl rfl (by show c.blocks.set k _ = _; rw [h.eP, h.eZ]) rfl rfl (by show c.ops + 1 = _; rw [h.en]) h.em⟩
theorem DSt.mark (h : DSt c P k X Y true n m M) (hn : M.at_ ≠ n + 1) : ∃ c', c.markE k X = (c', 0) ∧ DSt c' P k { X with mark := true } Y true (n + 1) m M := by
  refine ⟨({ c with ops := c.ops + 1 } : CM).setB k { X with mark := true }, by unfold CM.markE; rw [h.beg, h.mi0 hn]; rfl, h.put rfl rfl rfl rfl h.eo (by show c.ops + 1 = _; rw [h.en]) h.em⟩
theorem DSt.read (h : DSt c P k X Y true n m M) {p : Nat} (hp : p < P) (hn : M.at_ ≠ n + 1) : ∃ c', c.read (k : Int) (p : Int) = (c', X.pages.getD p [], 0) ∧ DSt c' P k X Y true (n + 1) m M := by
  have := read_good (c := c) (k := k) (p := (p : Int)) h.eo (by rw [h.mi0 hn]; rfl) h.bX (by rw [h.eP]; omega)
  exact ⟨{ c with ops := c.ops + 1 }, by rw [this]; simp, h.same rfl rfl rfl rfl h.eo (by show c.ops + 1 = _; rw [h.en]) h.em⟩
/-- behind the dark -/
theorem DSt.begOff (h : DSt c P k X Y false n m M) (good : Bool) : c.beg good = (c, Mi.zero, 4) := by unfold CM.beg; rw [if_pos h.eo]
theorem DSt.eraseOff (h : DSt c P k X Y false n m M) (j : Nat) (x : CB) : c.erase j x = (c, 4) := by unfold CM.erase; rw [h.begOff]; rfl
theorem DSt.markOff (h : DSt c P k X Y false n m M) (j : Nat) (x : CB) : c.markE j x = (c, 4) := by unfold CM.markE; rw [h.begOff]; rfl
theorem DSt.readOff (h : DSt c P k X Y false n m M) (j p : Int) : c.read j p = (c, [], 4) := by unfold CM.read; rw [h.begOff]; rfl
theorem DSt.boot (h : DSt c P k X Y o n m M) : DSt { c with on := true } P k X Y true n m M := h.same rfl rfl rfl rfl rfl h.en h.em
theorem DSt.nextOf (h : DSt c P k X Y o n m M) : c.nextOf (k : Int) = X.next := by unfold CM.nextOf; rw [CM.blk_nat h.bX]
theorem DSt.wearOf (h : DSt c P k X Y o n m M) : c.wearOf (k : Int) = X.wear := by unfold CM.wearOf; rw [CM.blk_nat h.bX]
theorem DSt.markOf (h : DSt c P k X Y o n m M) : c.markOf (k : Int) = X.mark := by unfold CM.markOf; rw [CM.blk_nat h.bX]
theorem DSt.opsLt (h : DSt c P k X Y o n m M) (hn : n < 1000000000000) : c.ops < 1000000000000 := by rw [h.en]; exact hn
end

/-- the mishaps of both laws -/
theorem ms_one (b : Nat) (m : Mi) : IsMs (.slice (some ⟨b, 0, none⟩) 1 1) [m] [(b, .cells #[.int .i64 m.at_, .int .i64 m.kind, .int .i64 m.bytes, cellB m.fill] 47)] :=
  IsRow.made (size := 4) (e := 47) b 1 #[.int .i64 m.at_, .int .i64 m.kind, .int .i64 m.bytes, cellB m.fill] rfl (by simp [maxLen])
/-- the block of NandFails -/
def fX0 : CB := CB.new 4 128 false
def fX1 (raw : List UInt8) : CB := fX0.put 0 raw raw.length
def fX2 (raw : List UInt8) (j : Nat) : CB := { (fX1 raw).put 1 raw j with failed := true }
def fX3 (raw : List UInt8) (j : Nat) : CB := { (fX2 raw j).put 2 raw 0 with failed := true }
def fX4 (raw : List UInt8) (j : Nat) : CB := { fX3 raw j with failed := true }
def fX5 (raw : List UInt8) (j : Nat) : CB := { fX4 raw j with mark := true }
theorem put_all {old raw : List UInt8} (h : old.length = raw.length) : raw.take raw.length ++ old.drop raw.length = raw := by
  rw [List.take_length, List.drop_eq_nil_of_le (by omega), List.append_nil]
theorem fX4_p0 {raw : List UInt8} {j : Nat} (hl : raw.length = 156) : (fX4 raw j).pages.getD 0 [] = raw := by
  show raw.take raw.length ++ (blankP 128).drop raw.length = raw
  exact put_all (by rw [hl]; simp [blankP])
theorem fX4_p1 {raw : List UInt8} {j : Nat} : (fX4 raw j).pages.getD 1 [] = raw.take j ++ (blankP 128).drop j := rfl
theorem p1_length {raw : List UInt8} {j : Nat} (hl : raw.length = 156) (hj : j ≤ 155) : (raw.take j ++ (blankP 128).drop j).length = 156 := by
  simp [blankP, hl]; omega
theorem p1_last {raw : List UInt8} {j : Nat} (hl : raw.length = 156) (hj : j ≤ 155) : ((raw.take j ++ (blankP 128).drop j).map cellB)[155]? = some (.int .u8 255) := by
  rw [List.getElem?_map, List.getElem?_append_right (by simp [hl]; omega), List.getElem?_drop]
  have e : j + (155 - (raw.take j).length) = 155 := by simp [hl]; omega
  rw [e]
  rfl
/-- the block of NandDark -/
def gX0 : CB := CB.new 2 128 false
def gX1 (raw : List UInt8) : CB := gX0.put 0 raw raw.length
def gX2 (raw raw2 : List UInt8) (j : Nat) : CB := (gX1 raw).put 1 raw2 j
def gE2 (raw : List UInt8) (u : UInt8) : CB := { gX1 raw with pages := List.replicate 2 (List.replicate 156 u), next := if u = 255 then 0 else ((2 : Nat) : Int), wear := (gX1 raw).wear + 1 }
theorem gX2_p1 {raw raw2 : List UInt8} {j : Nat} : (gX2 raw raw2 j).pages.getD 1 [] = raw2.take j ++ (blankP 128).drop j := rfl
theorem gE2_p1 {raw : List UInt8} {u : UInt8} : (gE2 raw u).pages.getD 1 [] = List.replicate 156 u := rfl
theorem d1_length {raw : List UInt8} {j : Nat} (hl : raw.length = 156) (hj : j ≤ 156) : (raw.take j ++ (blankP 128).drop j).length = 156 := by
  simp [blankP, hl]; omega
theorem d1_lo {raw : List UInt8} {j i : Nat} {u : UInt8} (hl : raw.length = 156) (hi : i < j) (hj : j ≤ 156) (hu : raw[i]? = some u) : ((raw.take j ++ (blankP 128).drop j).map cellB)[i]? = some (.int .u8 (u.toNat : Int)) := by
  rw [List.getElem?_map, List.getElem?_append_left (by simp [hl]; omega), List.getElem?_take, if_pos hi, hu]
  rfl
theorem d1_hi {raw : List UInt8} {j i : Nat} (hl : raw.length = 156) (hi : ¬ i < j) (hj : j ≤ 156) (h6 : i < 156) : ((raw.take j ++ (blankP 128).drop j).map cellB)[i]? = some (.int .u8 255) := by
  rw [List.getElem?_map, List.getElem?_append_right (by simp [hl]; omega), List.getElem?_drop]
  have e : j + (i - (raw.take j).length) = i := by simp [hl]; omega
  rw [e]
  unfold blankP
  rw [List.getElem?_replicate, if_pos (by omega)]
  rfl
end Go.Proofs.Ytndalabilfdgkaa
