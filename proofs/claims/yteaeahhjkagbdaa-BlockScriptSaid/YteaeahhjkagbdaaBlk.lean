/-
  Package block: the model of a block device, and its calls.
-/
import Derived.Test.YteaeahhjkagbdaaLib
namespace Go.Proofs.Yteaeahhjkagbdaa
open Go.RowKit
set_option linter.unusedSimpArgs false
set_option linter.unusedVariables false

def IdxRel (ss : List (List UInt8)) (s : List UInt8) (i : Value) : Prop := ∃ k : Nat, k ≤ ss.length ∧ i = .int .i64 k ∧ s ∉ ss.take k
def IdxPost (ss : List (List UInt8)) (s : List UInt8) (w : World) (e : Ending) (w' : World) : Prop := ∃ i : Int, e = .returned (.int .i64 i) ∧ (0 ≤ i ↔ s ∈ ss) ∧ i ≤ 9223372036854775807 ∧ w = w'

set_option maxHeartbeats 400000 in
theorem index_any (v : Value) (ss : List (List UInt8)) (s : List UInt8) (w : World) (hv : ReadsAt w 1 v ss.length (ss.map strV)) :
    Calls Try.prog 89 #[v, strV s] w (IdxPost ss s w) := by
  have hn := hv.le
  unfold maxLen at hn
  obtain ⟨_, A, c, rfl, _, _, h⟩ := hv
  have HV := Lib.hid h; clear h
  unfold strV
  go_enter Try.func89, Try.ntmps89
  go_wp2
  go_loop [8] (fun i => IdxRel ss s i) (fun i => ss.length - (intOf i).toNat)
  case atStart => exact ⟨0, by omega, rfl, by simp⟩
  case round =>
    obtain ⟨k, hk, rfl, hne⟩ := hrel
    have HN := Lib.hid hne; clear hne
    by_cases hlt : k < ss.length
    · obtain ⟨b, o, rfl, h1⟩ := HV.out (by omega)
      have c1 : w.cell? ⟨b, o + k, none⟩ = some (.string ⟨ss[k].toArray⟩) := h1 k _ (by simp [hlt, strV])
      clear h1
      by_cases hx : s = ss[k]
      · have e1 : (s == ss[k]) = true := by simpa using hx
        have HX := Lib.hid hx; clear hx
        go_wp2
        go_ret
        exact ⟨k, rfl, ⟨fun _ => by rw [HX.out]; exact List.getElem_mem hlt, fun _ => by omega⟩, by omega, rfl⟩
      · have e1 : (s == ss[k]) = false := by simpa using hx
        have HX := Lib.hid hx; clear hx
        go_wp2
        refine ⟨⟨k + 1, by omega, by go_num, ?_⟩, by simp [intOf]; omega⟩
        rw [List.take_succ_eq_append_getElem hlt]
        simp only [List.mem_append, List.mem_singleton, not_or]
        exact ⟨HN.out, HX.out⟩
    · go_wp2
      go_ret
      have := HN.out
      rw [List.take_of_length_le (by omega)] at this
      exact ⟨-1, rfl, ⟨fun h => by omega, fun h => absurd h this⟩, by omega, rfl⟩

set_option maxHeartbeats 400000 in
theorem contains_any (v : Value) (ss : List (List UInt8)) (s : List UInt8) (w : World) (hv : ReadsAt w 1 v ss.length (ss.map strV)) :
    Calls Try.prog 67 #[v, strV s] w fun e w' => e = .returned (.bool (decide (s ∈ ss))) ∧ w = w' := by
  go_enter Try.func67, Try.ntmps67
  go_wp2_with fail
  refine (index_any v ss s w hv).mono ?_
  rintro e w' ⟨i, rfl, hi, hb, rfl⟩
  have HI := Lib.hid hi; clear hi
  go_wp2
  go_ret
  refine ⟨ret_b ?_, rfl⟩
  have := HI.out
  by_cases h : 0 ≤ i <;> simp_all

/-- the model, as the document has it -/
structure BM where
  size : Int
  may : List (List (List UInt8))
  given : Bool
def BM.there (m : BM) (i : Int) : Bool := decide (0 ≤ i ∧ i < m.may.length)
def BM.at_ (m : BM) (i : Int) : List (List UInt8) := m.may.getD i.toNat []
def BM.can (m : BM) (i : Int) (b : List UInt8) : Bool := m.there i && decide (b ∈ m.at_ i)
def BM.put (m : BM) (i : Int) (l : List (List UInt8)) : BM := { m with may := m.may.set i.toNat l }
def BM.also (m : BM) (i : Int) (b : List UInt8) : BM := if m.can i b then m else m.put i (m.at_ i ++ [b])
def BM.read (m : BM) (i : Int) (code : Int) (data : List UInt8) : Bool × BM :=
  if m.there i = false then ((code == 2 || code == 4) && data.isEmpty, m)
  else if code = 0 then if m.can i data then (true, m.put i [data]) else (m.given && (data.length : Int) == m.size, m)
  else if code = 4 ∨ code = 5 ∨ code = 11 then (data.isEmpty, m) else (false, m)
def BM.write (m : BM) (i : Int) (b : List UInt8) (code : Int) (data : List UInt8) : Bool × BM :=
  if data.isEmpty = false then (false, m)
  else if m.there i = false ∨ (b.length : Int) ≠ m.size then (code == 2 || code == 4, m)
  else if code = 0 then if m.given then (false, m) else (true, m.put i [b])
  else if code = 5 ∨ code = 7 then if m.given then (false, m) else (true, m.also i b)
  else if code = 4 then (true, m.also i b)
  else if code = 11 then (true, { m with given := true })
  else (false, m)
def BM.sure (m : BM) (i : Int) : Option (List UInt8) := if m.there i && (m.at_ i).length == 1 then (m.at_ i).head? else none
def BM.new (n : Nat) (size : Nat) : BM := ⟨size, List.replicate n [List.replicate size 0], false⟩

def strsR (c : List Value) (ss : List (List UInt8)) (H : HL) : Prop := ∃ v, c = [v] ∧ IsRow 9 1 v ss.length (ss.map strV) H
def IsBM (v : Value) (m : BM) (H : HL) : Prop := ∃ b mv Hm, v = .pointer (some ⟨b, 0, none⟩) ∧ Rows2 strsR 106 1 mv m.may Hm ∧ H = (b, .cells #[.int .i64 m.size, mv, .bool m.given] 105) :: Hm

section
variable {v : Value} {m : BM} {H Fr : HL} {w : World}
/-- a model's own cells, and what stands behind them -/
theorem IsBM.open_ (h : IsBM v m H) (hH : Holds w (H ++ Fr)) : ∃ b mv Hm A c, v = .pointer (some ⟨b, 0, none⟩) ∧ mv = .slice A m.may.length c ∧ m.may.length ≤ c ∧ c ≤ maxLen ∧ b < w.heap.size ∧
    w.cell? ⟨b, 0, none⟩ = some (.int .i64 m.size) ∧ w.cell? ⟨b, 1, none⟩ = some mv ∧ w.cell? ⟨b, 2, none⟩ = some (.bool m.given) ∧ w.frozen? ⟨b, 2, none⟩ = false ∧
    Rows2 strsR 106 1 mv m.may Hm ∧ Holds w (Hm ++ ((b, .cells #[.int .i64 m.size, mv, .bool m.given] 105) :: Fr)) := by
  obtain ⟨b, mv, Hm, rfl, hr, rfl⟩ := h
  obtain ⟨A, c, hv, hle, hc⟩ := hr.val
  have hH' : Holds w ((b, .cells #[.int .i64 m.size, mv, .bool m.given] 105) :: (Hm ++ Fr)) := by simpa using hH
  exact ⟨b, mv, Hm, A, c, rfl, hv, hle, hc, hH'.hlt, hH'.hcell 0, hH'.hcell 1, hH'.hcell 2, hH'.hfrozen 2, hr, Holds.swap (A := [(b, .cells #[.int .i64 m.size, mv, .bool m.given] 105)]) (by simpa using hH)⟩
theorem IsBM.close_ {b : Nat} {mv : Value} {may : List (List (List UInt8))} {Hm : HL} {z : Int} {g : Bool} (hr : Rows2 strsR 106 1 mv may Hm) (hH : Holds w (Hm ++ ((b, .cells #[.int .i64 z, mv, .bool g] 105) :: Fr))) :
    ∃ H, IsBM (.pointer (some ⟨b, 0, none⟩)) ⟨z, may, g⟩ H ∧ Holds w (H ++ Fr) :=
  ⟨_, ⟨b, mv, Hm, rfl, hr, rfl⟩, by simpa using Holds.swap (A := Hm) (B := [(b, .cells #[.int .i64 z, mv, .bool g] 105)]) (by simpa using hH)⟩
end

set_option maxHeartbeats 400000 in
theorem there_any (v : Value) (m : BM) (H Fr : HL) (i : Int) (w : World) (h : IsBM v m H) (hH : Holds w (H ++ Fr)) :
    Calls Try.prog 65 #[v, .int .i64 i] w fun e w' => e = .returned (.bool (m.there i)) ∧ w = w' := by
  obtain ⟨b, mv, Hm, A, c, rfl, rfl, hlc, hcm, hb, c0, c1, c2, f2, hr, hH2⟩ := h.open_ hH
  clear hr hH2 hH h
  unfold maxLen at hcm
  unfold BM.there
  generalize m.may.length = n at *
  by_cases h1 : 0 ≤ i
  · by_cases h2 : i < n
    · go_enter Try.func65, Try.ntmps65
      go_wp2
      go_ret
      exact ⟨ret_b (by simp; omega), rfl⟩
    · go_enter Try.func65, Try.ntmps65
      go_wp2
      go_ret
      exact ⟨ret_b (by simp; omega), rfl⟩
  · go_enter Try.func65, Try.ntmps65
    go_wp2
    go_ret
    exact ⟨ret_b (by simp; omega), rfl⟩
theorem there_nil (i : Int) (w : World) : Calls Try.prog 65 #[.pointer none, .int .i64 i] w fun e w' => e = .returned (.bool false) ∧ w = w' := by
  go_enter Try.func65, Try.ntmps65
  go_wp2
  go_ret
  exact ⟨rfl, rfl⟩

theorem BM.there_iff {m : BM} {i : Int} : m.there i = true ↔ 0 ≤ i ∧ i < m.may.length := by simp [BM.there]
theorem BM.at_get {m : BM} {i : Int} (h : m.there i = true) : ∃ k : Nat, i = (k : Int) ∧ k < m.may.length ∧ m.may[k]? = some (m.at_ i) := by
  obtain ⟨h0, h1⟩ := BM.there_iff.1 h
  obtain ⟨k, rfl⟩ := Int.eq_ofNat_of_zero_le h0
  exact ⟨k, rfl, by omega, by simp [BM.at_, List.getD, show k < m.may.length by omega]⟩

set_option maxHeartbeats 400000 in
theorem can_any (v : Value) (m : BM) (H Fr : HL) (i : Int) (bv : Value) (bs : List UInt8) (w : World) (h : IsBM v m H) (hH : Holds w (H ++ Fr)) (hb : BytesAt w bv bs) :
    Calls Try.prog 29 #[v, .int .i64 i, bv] w (RetQ w (.bool (m.can i bs))) := by
  have hth := fun n => there_any v m H Fr i (w.drewN n) h (hH.drewN n)
  have hcv : ∀ n, (convert 31 9 bv).run Try.prog (w.drewN n) = .ok (strV bs) (w.drewN n) := fun n => run_string tBytes.under (by kernel_rfl) (by kernel_rfl) (ReadsAt.drewN hb n)
  unfold BM.can
  cases ht : m.there i with
  | false =>
    simp only [ht] at hth
    have HT := Lib.hid hth; clear hth ht
    obtain ⟨b, mv, Hm, A, c, rfl, rfl, hlc, hcm, hb, c0, c1, c2, f2, hr, hH2⟩ := h.open_ hH
    clear hr hH2 hH h c0 c1 c2 f2
    go_enter Try.func29, Try.ntmps29
    go_wp2
    go_quiet ((go_at_call 65; exact quietS (HT.out _)))
    go_wp2
    go_ret
    exact ⟨rfl, _, rfl⟩
  | true =>
    obtain ⟨k, rfl, hk, hg⟩ := BM.at_get ht
    simp only [ht] at hth
    have HT := Lib.hid hth; clear hth ht
    obtain ⟨b, mv, Hm, A, c, rfl, hmv, hlc, hcm, hb, c0, c1, c2, f2, hr, hH2⟩ := h.open_ hH
    obtain ⟨g, cap, cc, Hi, Hr, rfl, hcap, hcap2, _, hcl, ⟨sv, rfl, hrow⟩, hcells, _, _, hH3, _⟩ := hr.open_ hH2 hg
    have hcell : w.cell? ⟨g, k, none⟩ = some sv := by have := (hcells 0 (by omega)).1; simpa using this
    have hct := fun n => contains_any sv _ bs (w.drewN n) ((hrow.reads hH3).drewN n)
    obtain ⟨A2, c2', rfl⟩ := hrow.val
    have HC := Lib.hid hct; clear hct
    have HM := Lib.hid hmv
    clear hcells hr hH2 hH h c0 c2 f2 hmv hrow hH3 hg hcl
    generalize m.may.length = n at *
    go_enter Try.func29, Try.ntmps29
    go_wp2
    go_quiet (first | (go_at_call 65; exact quietS (HT.out _)) | (go_at_call 67; exact quietS (HC.out _)))
    go_wp2
    go_ret
    exact ⟨rfl, _, rfl⟩

set_option maxRecDepth 20000 in
set_option maxHeartbeats 400000 in
theorem also_any (v : Value) (m : BM) (H Fr : HL) (i : Int) (bv : Value) (bs : List UInt8) (w : World) (h : IsBM v m H) (hH : Holds w (H ++ Fr)) (hfb : FrBytes Fr bv bs)
    (ht : m.there i = true) (hsm : (m.at_ i).length ≤ 1000000) :
    Calls Try.prog 66 #[v, .int .i64 i, bv] w (RetUpd (fun H => IsBM v (m.also i bs) H) (.tuple #[]) w Fr) := by
  have hb := hfb w hH.right
  have hcan := can_any v m H Fr i bv bs w h hH hb
  unfold BM.also
  cases hc : m.can i bs with
  | true =>
    rw [hc] at hcan
    have HC := Lib.hid hcan; clear hcan hc
    go_enter Try.func66, Try.ntmps66
    go_wp2_with fail
    refine HC.out.mono ?_
    rintro e w' ⟨rfl, q, rfl⟩
    have hm := Lib.hid h; clear h
    go_wp2
    go_end0
    exact ⟨rfl, H, hm.out, hH.drewN _, (Grew.refl w).drewN _⟩
  | false =>
    rw [hc] at hcan
    have HC := Lib.hid hcan; clear hcan hc
    obtain ⟨k, rfl, hk, hg⟩ := BM.at_get ht
    have hcv : ∀ wx, BytesAt wx bv bs → (convert 31 9 bv).run Try.prog wx = .ok (.string ⟨bs.toArray⟩) wx := fun wx hx => run_string tBytes.under (by kernel_rfl) (by kernel_rfl) hx
    have HCV := Lib.hid hcv; clear hcv
    obtain ⟨b, mv, Hm, A, c, rfl, hmv, hlc, hcm, hbl, c0, c1, c2, f2, hr, hH2⟩ := h.open_ hH
    obtain ⟨g, cap, cc, Hi, Hr, rfl, hcap, hcap2, _, hcl, ⟨sv, rfl, hrow⟩, hcells, hrm, hgl, hH3, _, hput⟩ := hr.open_ hH2 hg
    obtain ⟨cs, fz, hmem, hfz, hcs⟩ := hrm
    have hcell : w.cell? ⟨g, k, none⟩ = some sv := by have := (hcells 0 (by omega)).1; simpa using this
    have hfro : w.frozen? ⟨g, k, none⟩ = false := by have := (hcells 0 (by omega)).2; simpa using this
    obtain ⟨A2, c2', rfl⟩ := hrow.val
    have HROW := Lib.hid hrow
    have HPUT := Lib.hid hput
    have HM := Lib.hid hmv
    have HSM := Lib.hid hsm
    clear hcells hr hH2 hH h c0 c2 f2 hmv hg hcl hrow hput ht hb hsm
    generalize hmay : m.may.length = n at *
    generalize hat : m.at_ (k : Int) = ss at *
    have HMAY := Lib.hid hmay; clear hmay
    have HAT := Lib.hid hat; clear hat
    go_enter Try.func66, Try.ntmps66
    go_wp2_with fail
    refine HC.out.mono ?_
    rintro e w' ⟨rfl, q, rfl⟩
    go_wp2_with fail
    have HFB := Lib.hid hfb; clear hfb
    have HFZ := Lib.hid (show ∀ wx : World, Later w wx → wx.frozen? ⟨g, k, none⟩ = false from fun wx hx => frozen_of_block ((hx.holds hH3).right.get (List.mem_append_left _ hmem)) hfz (by omega))
    have hS0 : ∀ wx : World, Later w wx → wx.cell? ⟨b, 1, none⟩ = some (.slice (some ⟨g, 0, none⟩) n cap) ∧ wx.cell? ⟨g, k, none⟩ = some (.slice A2 ss.length c2') ∧ wx.frozen? ⟨g, k, none⟩ = false ∧ (convert 31 9 bv).run Try.prog wx = .ok (.string ⟨bs.toArray⟩) wx :=
      fun wx hx => ⟨hx.cell c1, hx.cell hcell, HFZ.out _ hx, HCV.out _ (HFB.out _ (hx.holds (Holds.right (A := [_]) hH3.right.right)))⟩
    have hS1 : ∀ (wx : World) (H' : HL), Holds wx (H' ++ (Hr ++ ((b, .cells #[.int .i64 m.size, .slice (some ⟨g, 0, none⟩) n cap, .bool m.given] 105) :: Fr))) →
        wx.cell? ⟨b, 1, none⟩ = some (.slice (some ⟨g, 0, none⟩) n cap) ∧ wx.cell? ⟨g, k, none⟩ = some (.slice A2 ss.length c2') ∧ wx.frozen? ⟨g, k, none⟩ = false ∧ (convert 31 9 bv).run Try.prog wx = .ok (.string ⟨bs.toArray⟩) wx := by
      intro wx H' hx
      refine ⟨hx.right.right.hcell 1, ?_, frozen_of_block (hx.right.get (List.mem_append_left _ hmem)) hfz (by omega), HCV.out _ (HFB.out _ (Holds.right (A := [_]) hx.right.right))⟩
      rw [hx.right.cell (List.mem_append_left _ hmem), ← hH3.right.cell (List.mem_append_left _ hmem)]
      exact hcell
    have HS0 := Lib.hid hS0; clear hS0
    have HS1 := Lib.hid hS1; clear hS1
    refine Z_begin (fun wx => wx.cell? ⟨b, 1, none⟩ = some (.slice (some ⟨g, 0, none⟩) n cap) ∧ wx.cell? ⟨g, k, none⟩ = some (.slice A2 ss.length c2') ∧ wx.frozen? ⟨g, k, none⟩ = false ∧ (convert 31 9 bv).run Try.prog wx = .ok (.string ⟨bs.toArray⟩) wx) 17 (by kernel_rfl) (fun w1 hd => HS0.out _ ((Later.drN w q).trans (Later.dr hd))) (fun w1 hd hs => ?_)
    have hL : Later w w1 := (Later.drN w q).trans (Later.dr hd); have hG : Grew w w1 := ((Grew.refl w).drewN q).trans (Grew.dr hd); clear hd
    refine Z_take 0 (v := ?_) rfl (by kernel_rfl) (fun _ _ _ h => h) (by rfl) hs ?_ ?_
    rotate_left
    · intro wx hx; obtain ⟨x1, x2, x3, x4⟩ := hx; go_simp; try with_reducible rfl
    simp only [Act.put]
    refine Z_take 1 (v := ?_) rfl (by kernel_rfl) (fun _ _ _ h => h) (by rfl) hs ?_ ?_
    rotate_left
    · intro wx hx; obtain ⟨x1, x2, x3, x4⟩ := hx; go_simp; try with_reducible rfl
    simp only [Act.put]
    refine Z_take 2 (v := ?_) rfl (by kernel_rfl) (fun _ _ _ h => h) (by rfl) hs ?_ ?_
    rotate_left
    · intro wx hx; obtain ⟨x1, x2, x3, x4⟩ := hx; go_simp; try with_reducible rfl
    simp only [Act.put]
    refine Z_take 3 (v := ?_) rfl (by kernel_rfl) (fun _ _ _ h => h) (by rfl) hs ?_ ?_
    rotate_left
    · intro wx hx; obtain ⟨x1, x2, x3, x4⟩ := hx; go_simp; try with_reducible rfl
    simp only [Act.put]
    refine Z_take 4 (v := ?_) rfl (by kernel_rfl) (fun _ _ _ h => h) (by rfl) hs ?_ ?_
    rotate_left
    · intro wx hx; obtain ⟨x1, x2, x3, x4⟩ := hx; go_simp; try with_reducible rfl
    simp only [Act.put]
    refine Z_take 5 (v := ?_) rfl (by kernel_rfl) (fun _ _ _ h => h) (by rfl) hs ?_ ?_
    rotate_left
    · intro wx hx; obtain ⟨x1, x2, x3, x4⟩ := hx; go_simp; try with_reducible rfl
    simp only [Act.put]
    refine Z_take 6 (v := ?_) rfl (by kernel_rfl) (fun _ _ _ h => h) (by rfl) hs ?_ ?_
    rotate_left
    · intro wx hx; obtain ⟨x1, x2, x3, x4⟩ := hx; go_simp; try with_reducible rfl
    simp only [Act.put]
    refine Z_take 7 (v := ?_) rfl (by kernel_rfl) (fun _ _ _ h => h) (by rfl) hs ?_ ?_
    rotate_left
    · intro wx hx; obtain ⟨x1, x2, x3, x4⟩ := hx; go_simp; try with_reducible rfl
    simp only [Act.put]
    refine Z_take 8 (v := ?_) rfl (by kernel_rfl) (fun _ _ _ h => h) (by rfl) hs ?_ ?_
    rotate_left
    · intro wx hx; obtain ⟨x1, x2, x3, x4⟩ := hx; go_simp; try with_reducible rfl
    simp only [Act.put]
    refine Z_take 9 (v := ?_) rfl (by kernel_rfl) (fun _ _ _ h => h) (by rfl) hs ?_ ?_
    rotate_left
    · intro wx hx; obtain ⟨x1, x2, x3, x4⟩ := hx; go_simp; try with_reducible rfl
    simp only [Act.put]
    refine Z_take 10 (v := ?_) rfl (by kernel_rfl) (fun _ _ _ h => h) (by rfl) hs ?_ ?_
    rotate_left
    · intro wx hx; obtain ⟨x1, x2, x3, x4⟩ := hx; go_simp; try with_reducible rfl
    simp only [Act.put]
    refine Z_take 11 (v := ?_) rfl (by kernel_rfl) (fun _ _ _ h => h) (by rfl) hs ?_ ?_
    rotate_left
    · intro wx hx; obtain ⟨x1, x2, x3, x4⟩ := hx; go_simp; try with_reducible rfl
    simp only [Act.put]
    refine Z_take 12 (v := ?_) rfl (by kernel_rfl) (fun _ _ _ h => h) (by rfl) hs ?_ ?_
    rotate_left
    · intro wx hx; obtain ⟨x1, x2, x3, x4⟩ := hx; go_simp; try with_reducible rfl
    simp only [Act.put]
    refine Z_mid 13 rfl (by kernel_rfl) (fun K hK => ?_)
    have ⟨x1, x2, x3, x4⟩ := hs
    go_simp   -- convert w
    clear x1 x2 x3 x4
    refine hK _ _ (hs) (fun hs2 => ?_); clear hK K hs; have hs := hs2; clear hs2
    refine Z_mid 14 rfl (by kernel_rfl) (fun K hK => ?_)
    have ⟨x1, x2, x3, x4⟩ := hs
    go_simp   -- buildSlice w
    clear x1 x2 x3 x4
    refine hK _ _ (HS0.out _ (hL.trans (Later.push rfl))) (fun hs2 => ?_); clear hK K hs; have hs := hs2; clear hs2
    refine Z_mid 15 rfl (by kernel_rfl) (fun K hK => ?_)
    have ⟨x1, x2, x3, x4⟩ := hs
    refine step_append_T tStrs (by rfl) _ _ (by rfl) (by rfl) (by rfl) HROW.out ((hL.trans (Later.push rfl)).holds hH3) ReadsAt.one (by simp [Value.oneCell']) (by have := HSM.out; simp [maxLen]; omega) (by have := HSM.out; omega) ?_; intro A' c3 w' H' hrow2 hH6 hg4   -- call w
    clear x1 x2 x3 x4
    refine hK _ _ (HS1.out _ _ hH6) (fun hs2 => ?_); clear hK K hs; have hs := hs2; clear hs2
    refine Z_take 16 (v := ?_) rfl (by kernel_rfl) (fun _ _ _ h => h) (by rfl) hs ?_ ?_
    rotate_left
    · intro wx hx; obtain ⟨x1, x2, x3, x4⟩ := hx; go_simp; try with_reducible rfl
    simp only [Act.put]
    refine Z_last 17 rfl (by kernel_rfl) rfl (fun K hK => ?_)
    have ⟨x1, x2, x3, x4⟩ := hs
    go_simp   -- store w
    clear x1 x2 x3 x4
    refine hK _ _ ?_; clear hK K hs
    refine Z_done (by kernel_rfl) ?_ _
    have hrow' : strsR [.slice A' (ss.length + 1) c3] (ss ++ [bs]) H' := ⟨_, rfl, by simpa [strV] using hrow2⟩
    obtain ⟨H5, hr5, hh5⟩ := HPUT.out w' 0 (.slice A' (ss.length + 1) c3) (ss ++ [bs]) H' (by omega) hrow' hH6
    obtain ⟨H7, hm7, hh7⟩ := IsBM.close_ hr5 hh5
    have e : IsBM (.pointer (some ⟨b, 0, none⟩)) (m.put (k : Int) (ss ++ [bs])) H7 := hm7
    rw [Nat.mul_one, Nat.add_zero] at hh7
    have HE := Lib.hid e; clear e hm7 hr5 hrow' hrow2
    go_end0
    exact ⟨rfl, H7, HE.out, hh7, ((hG.alloc _).trans hg4).setCell _ _⟩

theorem int_eqb {a b : Int} (h : a ≠ b) : (a == b) = false := by simpa using h

set_option maxRecDepth 20000 in
set_option maxHeartbeats 1000000 in
theorem bwrite_data (v : Value) (m : BM) (H Fr : HL) (i : Int) (bv : Value) (bs : List UInt8) (code : Int) (dv : Value) (data : List UInt8) (w : World) (h : IsBM v m H) (hH : Holds w (H ++ Fr))
    (hfd : FrBytes Fr dv data) (hd : data.isEmpty = false) :
    Calls Try.prog 20 #[v, .int .i64 i, bv, .agg #[.int .i64 code, dv]] w (RetUpd (fun H => IsBM v m H) (.bool false) w Fr) := by
  have hd0 := hfd w hH.right
  have hnd := ReadsAt.le hd0
  obtain ⟨A2, q2, rfl⟩ := hd0.val
  unfold maxLen at hnd
  clear hd0
  obtain ⟨b, mv, Hm, A, c, rfl, hmv, hlc, hcm, hbl, c0, c1, c2, f2, hr, hH2⟩ := h.open_ hH
  have HH := Lib.hid h
  clear h hr c0 c1 c2 f2 hH2
  have hd2 : 0 < data.length := by rcases data with _ | _ <;> simp_all
  have hd3 : (0 : Int) < (data.length : Int) := by omega
  have HE := Lib.hid (hH.alloc' (.cells #[.int .i64 code, .slice A2 data.length q2] 35))
  clear hd
  go_enter Try.func20, Try.ntmps20
  go_wp2
  go_ret
  exact ⟨rfl, H, HH.out, HE.out, (Grew.refl w).alloc _⟩

set_option maxRecDepth 20000 in
set_option maxHeartbeats 4000000 in
theorem bwrite_none (v : Value) (m : BM) (H Fr : HL) (i : Int) (bv : Value) (bs : List UInt8) (code : Int) (A2 : Option Addr) (q2 : Nat) (w : World) (h : IsBM v m H) (hH : Holds w (H ++ Fr))
    (hfb : FrBytes Fr bv bs) (hsm : (m.at_ i).length ≤ 1000000) :
    Calls Try.prog 20 #[v, .int .i64 i, bv, .agg #[.int .i64 code, .slice A2 0 q2]] w (RetUpd (fun H => IsBM v (m.write i bs code []).2 H) (.bool (m.write i bs code []).1) w Fr) := by
  have hb0 := hfb w hH.right
  have hnb := ReadsAt.le hb0
  obtain ⟨A1, q1, rfl⟩ := hb0.val
  unfold maxLen at hnb
  clear hb0
  have HE := Lib.hid (hH.alloc' (.cells #[.int .i64 code, .slice A2 0 q2] 35))
  have hth := there_any v m H Fr i (w.alloc (.cells #[.int .i64 code, .slice A2 0 q2] 35)) h (hH.alloc' _)
  have hal := fun ht => also_any v m H Fr i (.slice A1 bs.length q1) bs (w.alloc (.cells #[.int .i64 code, .slice A2 0 q2] 35)) h (hH.alloc' _) hfb ht hsm
  obtain ⟨b, mv, Hm, A, c, rfl, hmv, hlc, hcm, hbl, c0, c1, c2, f2, hr, hH2⟩ := h.open_ hH
  have HH := Lib.hid h
  have HAL := Lib.hid hal; clear hal
  have HR := Lib.hid hr; clear hr h
  have hL : Later w (w.alloc (.cells #[.int .i64 code, .slice A2 0 q2] 35)) := Later.push rfl
  have e0 := hL.cell c0
  have e1 := hL.cell c1
  have e2 := hL.cell c2
  clear c0 c1 c2
  subst hmv
  unfold BM.write
  rw [if_neg (by simp)]
  cases ht : m.there i with
  | false =>
    rw [ht] at hth
    have HT := Lib.hid hth; clear hth
    rw [if_pos (.inl rfl)]
    clear ht
    by_cases h2 : code = 2
    · subst h2
      go_enter Try.func20, Try.ntmps20
      go_wp2_with (go_at_call 65; refine HT.out.mono ?_; rintro e w' ⟨rfl, rfl⟩)
      go_ret
      exact ⟨rfl, H, HH.out, HE.out, (Grew.refl w).alloc _⟩
    · have n2 := int_eqb h2
      by_cases h4 : code = 4
      · subst h4
        go_enter Try.func20, Try.ntmps20
        go_wp2_with (go_at_call 65; refine HT.out.mono ?_; rintro e w' ⟨rfl, rfl⟩)
        go_ret
        exact ⟨rfl, H, HH.out, HE.out, (Grew.refl w).alloc _⟩
      · have n4 := int_eqb h4
        rw [n2, n4]
        clear h2 h4
        go_enter Try.func20, Try.ntmps20
        go_wp2_with (go_at_call 65; refine HT.out.mono ?_; rintro e w' ⟨rfl, rfl⟩)
        go_ret
        exact ⟨rfl, H, HH.out, HE.out, (Grew.refl w).alloc _⟩
  | true =>
    have HTT := Lib.hid ht
    rw [ht] at hth
    have HT := Lib.hid hth; clear hth
    by_cases hz : (bs.length : Int) = m.size
    · have hz1 : ((bs.length : Int) != m.size) = false := by simpa using hz
      rw [if_neg (by simpa using hz)]
      have HZ := Lib.hid hz; clear hz ht
      by_cases h0 : code = 0
      · subst h0
        rw [if_pos rfl]
        cases hg : m.given with
        | true =>
          rw [hg] at e2
          clear hg
          go_enter Try.func20, Try.ntmps20
          go_wp2_with (go_at_call 65; refine HT.out.mono ?_; rintro e w' ⟨rfl, rfl⟩)
          go_ret
          exact ⟨rfl, H, HH.out, HE.out, (Grew.refl w).alloc _⟩
        | false =>
          rw [hg] at e2
          clear hg
          obtain ⟨k, rfl, hk, hg⟩ := BM.at_get HTT.out
          obtain ⟨g, cap, cc, Hi, Hr, hgv, hcap, hcap2, _, hcl, ⟨sv, rfl, hrow⟩, hcells, hrm, hgl, hH3, _, hput⟩ := HR.out.open_ hH2 hg
          obtain ⟨cs, fz, hmem, hfz, hcs⟩ := hrm
          injection hgv with hgv1 _ hgv3
          subst hgv1; subst hgv3
          have hcell : w.cell? ⟨g, k, none⟩ = some sv := by have := (hcells 0 (by omega)).1; simpa using this
          obtain ⟨A3, c3, rfl⟩ := hrow.val
          have hcv : ∀ wx, BytesAt wx (.slice A1 bs.length q1) bs → (convert 31 9 (.slice A1 bs.length q1)).run Try.prog wx = .ok (.string ⟨bs.toArray⟩) wx := fun wx hx => run_string tBytes.under (by kernel_rfl) (by kernel_rfl) hx
          have e1' : w.cell? ⟨b, 1, none⟩ = some (.slice (some ⟨g, 0, none⟩) m.may.length c) := (Holds.swap (A := Hm) (B := [(b, _)]) hH2).hcell 1
          have hS0 : ∀ wx : World, Later w wx → wx.cell? ⟨b, 1, none⟩ = some (.slice (some ⟨g, 0, none⟩) m.may.length c) ∧ wx.cell? ⟨g, k, none⟩ = some (.slice A3 (m.at_ (k : Int)).length c3) ∧ wx.frozen? ⟨g, k, none⟩ = false ∧ (convert 31 9 (.slice A1 bs.length q1)).run Try.prog wx = .ok (.string ⟨bs.toArray⟩) wx :=
            fun wx hx => ⟨hx.cell e1', hx.cell hcell, frozen_of_block ((hx.holds hH3).right.get (List.mem_append_left _ hmem)) hfz (by omega), hcv _ (hfb _ (hx.holds (Holds.right (A := [_]) hH3.right.right)))⟩
          have HS0 := Lib.hid hS0; clear hS0
          have HPUT := Lib.hid hput
          clear hcells hcv hg hcl hrow hput hcs hfz hmem e1' hcell
          go_enter Try.func20, Try.ntmps20
          go_wp2_with (go_at_call 65; refine HT.out.mono ?_; rintro e w' ⟨rfl, rfl⟩)
          refine Z_begin (fun wx => wx.cell? ⟨b, 1, none⟩ = some (.slice (some ⟨g, 0, none⟩) m.may.length c) ∧ wx.cell? ⟨g, k, none⟩ = some (.slice A3 (m.at_ (k : Int)).length c3) ∧ wx.frozen? ⟨g, k, none⟩ = false ∧ (convert 31 9 (.slice A1 bs.length q1)).run Try.prog wx = .ok (.string ⟨bs.toArray⟩) wx) 9 (by kernel_rfl) (fun w1 hd => HS0.out _ (hL.trans (Later.dr hd))) (fun w1 hd hs => ?_)
          have hL1 : Later w w1 := hL.trans (Later.dr hd); have hG : Grew w w1 := ((Grew.refl w).alloc _).trans (Grew.dr hd); clear hd
          refine Z_take 0 (v := ?_) rfl (by kernel_rfl) (fun _ _ _ h => h) (by rfl) hs ?_ ?_
          rotate_left
          · intro wx hx; obtain ⟨x1, x2, x3, x4⟩ := hx; go_simp; try with_reducible rfl
          simp only [Act.put]
          refine Z_take 1 (v := ?_) rfl (by kernel_rfl) (fun _ _ _ h => h) (by rfl) hs ?_ ?_
          rotate_left
          · intro wx hx; obtain ⟨x1, x2, x3, x4⟩ := hx; go_simp; try with_reducible rfl
          simp only [Act.put]
          refine Z_take 2 (v := ?_) rfl (by kernel_rfl) (fun _ _ _ h => h) (by rfl) hs ?_ ?_
          rotate_left
          · intro wx hx; obtain ⟨x1, x2, x3, x4⟩ := hx; go_simp; try with_reducible rfl
          simp only [Act.put]
          refine Z_take 3 (v := ?_) rfl (by kernel_rfl) (fun _ _ _ h => h) (by rfl) hs ?_ ?_
          rotate_left
          · intro wx hx; obtain ⟨x1, x2, x3, x4⟩ := hx; go_simp; try with_reducible rfl
          simp only [Act.put]
          refine Z_take 4 (v := ?_) rfl (by kernel_rfl) (fun _ _ _ h => h) (by rfl) hs ?_ ?_
          rotate_left
          · intro wx hx; obtain ⟨x1, x2, x3, x4⟩ := hx; go_simp; try with_reducible rfl
          simp only [Act.put]
          refine Z_take 5 (v := ?_) rfl (by kernel_rfl) (fun _ _ _ h => h) (by rfl) hs ?_ ?_
          rotate_left
          · intro wx hx; obtain ⟨x1, x2, x3, x4⟩ := hx; go_simp; try with_reducible rfl
          simp only [Act.put]
          refine Z_mid 6 rfl (by kernel_rfl) (fun K hK => ?_)
          have ⟨x1, x2, x3, x4⟩ := hs
          go_simp   -- convert w
          clear x1 x2 x3 x4
          refine hK _ _ (hs) (fun hs2 => ?_); clear hK K hs; have hs := hs2; clear hs2
          refine Z_mid 7 rfl (by kernel_rfl) (fun K hK => ?_)
          have ⟨x1, x2, x3, x4⟩ := hs
          go_simp   -- buildSlice w
          clear x1 x2 x3 x4
          refine hK _ _ (HS0.out _ (hL1.trans (Later.push rfl))) (fun hs2 => ?_); clear hK K hs; have hs := hs2; clear hs2
          refine Z_take 8 (v := ?_) rfl (by kernel_rfl) (fun _ _ _ h => h) (by rfl) hs ?_ ?_
          rotate_left
          · intro wx hx; obtain ⟨x1, x2, x3, x4⟩ := hx; go_simp; try with_reducible rfl
          simp only [Act.put]
          refine Z_last 9 rfl (by kernel_rfl) rfl (fun K hK => ?_)
          have ⟨x1, x2, x3, x4⟩ := hs
          go_simp   -- store w
          clear x1 x2 x3 x4
          refine hK _ _ ?_; clear hK K hs
          refine Z_done (by kernel_rfl) ?_ _
          have hrow' : IsRow 9 1 (.slice (some ⟨w1.heap.size, 0, none⟩) 1 1) 1 [strV bs] [(w1.heap.size, .cells #[.string ⟨bs.toArray⟩] 9)] := IsRow.made (size := 1) (e := 9) w1.heap.size 1 #[.string ⟨bs.toArray⟩] (by rfl) (by simp [maxLen])
          have hal1 := (hL1.holds hH3).alloc (.cells #[.string ⟨bs.toArray⟩] 9)
          obtain ⟨H5, hr5, hh5⟩ := HPUT.out _ 0 (.slice (some ⟨w1.heap.size, 0, none⟩) 1 1) [bs] [(w1.heap.size, .cells #[.string ⟨bs.toArray⟩] 9)] (by omega) ⟨_, rfl, hrow'⟩ (Holds.mid (A := [_]) hal1)
          obtain ⟨H7, hm7, hh7⟩ := IsBM.close_ hr5 hh5
          have e : IsBM (.pointer (some ⟨b, 0, none⟩)) (m.put (k : Int) [bs]) H7 := hm7
          rw [Nat.mul_one, Nat.add_zero] at hh7
          have HEE := Lib.hid e; clear e hm7 hr5 hrow'
          go_wp2
          go_ret
          exact ⟨rfl, H7, HEE.out, hh7, (hG.alloc _).setCell _ _⟩
      · have n0 := int_eqb h0
        rw [if_neg h0]
        by_cases h57 : code = 5 ∨ code = 7
        · rw [if_pos h57]
          cases hg : m.given with
          | true =>
            rw [hg] at e2
            clear hg
            rcases h57 with rfl | rfl
            all_goals
              go_enter Try.func20, Try.ntmps20
              go_wp2_with (go_at_call 65; refine HT.out.mono ?_; rintro e w' ⟨rfl, rfl⟩)
              go_ret
              exact ⟨rfl, H, HH.out, HE.out, (Grew.refl w).alloc _⟩
          | false =>
            rw [hg] at e2
            clear hg
            rcases h57 with rfl | rfl
            all_goals
              go_enter Try.func20, Try.ntmps20
              go_wp2_with (first | (go_at_call 65; refine HT.out.mono ?_; rintro e w' ⟨rfl, rfl⟩) | (go_at_call 66; refine (HAL.out HTT.out).mono ?_; rintro e w' ⟨rfl, H9, hm9, hh9, hg9⟩; have HM9 := Lib.hid hm9; clear hm9))
              go_ret
              exact ⟨rfl, H9, HM9.out, hh9, ((Grew.refl w).alloc _).trans hg9⟩
        · have n5 := int_eqb (fun h => h57 (.inl h))
          have n7 := int_eqb (fun h => h57 (.inr h))
          rw [if_neg h57]
          clear h57 h0
          by_cases h4 : code = 4
          · subst h4
            rw [if_pos rfl]
            go_enter Try.func20, Try.ntmps20
            go_wp2_with (first | (go_at_call 65; refine HT.out.mono ?_; rintro e w' ⟨rfl, rfl⟩) | (go_at_call 66; refine (HAL.out HTT.out).mono ?_; rintro e w' ⟨rfl, H9, hm9, hh9, hg9⟩; have HM9 := Lib.hid hm9; clear hm9))
            go_ret
            exact ⟨rfl, H9, HM9.out, hh9, ((Grew.refl w).alloc _).trans hg9⟩
          · have n4 := int_eqb h4
            rw [if_neg h4]
            by_cases h11 : code = 11
            · subst h11
              rw [if_pos rfl]
              have g2 : (w.alloc (.cells #[.int .i64 11, .slice A2 0 q2] 35)).frozen? ⟨b, 2, none⟩ = false := (Holds.swap (A := Hm) (B := [(b, _)]) (hH2.alloc' _)).hfrozen 2
              go_enter Try.func20, Try.ntmps20
              go_wp2_with (go_at_call 65; refine HT.out.mono ?_; rintro e w' ⟨rfl, rfl⟩)
              have hset := (Holds.swap (A := Hm) (B := [(b, .cells #[.int .i64 m.size, .slice A m.may.length c, .bool m.given] 105)]) hH2).set 2 (.bool true)
              obtain ⟨H9, hm9, hh9⟩ := IsBM.close_ (z := m.size) (g := true) HR.out ((Holds.swap (A := [(b, .cells #[.int .i64 m.size, .slice A m.may.length c, .bool true] 105)]) hset).alloc' (.cells #[.int .i64 11, .slice A2 0 q2] 35))
              have HM9 := Lib.hid hm9; clear hm9
              go_ret
              exact ⟨rfl, H9, HM9.out, hh9, ((Grew.refl w).setCell _ _).alloc _⟩
            · have n11 := int_eqb h11
              rw [if_neg h11]
              clear h4 h11
              go_enter Try.func20, Try.ntmps20
              go_wp2_with (go_at_call 65; refine HT.out.mono ?_; rintro e w' ⟨rfl, rfl⟩)
              go_ret
              exact ⟨rfl, H, HH.out, HE.out, (Grew.refl w).alloc _⟩
    · have hz1 : ((bs.length : Int) != m.size) = true := by simpa using hz
      rw [if_pos (.inr hz)]
      have HZ := Lib.hid hz; clear hz ht
      by_cases h2 : code = 2
      · subst h2
        go_enter Try.func20, Try.ntmps20
        go_wp2_with (go_at_call 65; refine HT.out.mono ?_; rintro e w' ⟨rfl, rfl⟩)
        go_ret
        exact ⟨rfl, H, HH.out, HE.out, (Grew.refl w).alloc _⟩
      · have n2 := int_eqb h2
        by_cases h4 : code = 4
        · subst h4
          go_enter Try.func20, Try.ntmps20
          go_wp2_with (go_at_call 65; refine HT.out.mono ?_; rintro e w' ⟨rfl, rfl⟩)
          go_ret
          exact ⟨rfl, H, HH.out, HE.out, (Grew.refl w).alloc _⟩
        · have n4 := int_eqb h4
          rw [n2, n4]
          clear h2 h4
          go_enter Try.func20, Try.ntmps20
          go_wp2_with (go_at_call 65; refine HT.out.mono ?_; rintro e w' ⟨rfl, rfl⟩)
          go_ret
          exact ⟨rfl, H, HH.out, HE.out, (Grew.refl w).alloc _⟩
end Go.Proofs.Yteaeahhjkagbdaa
