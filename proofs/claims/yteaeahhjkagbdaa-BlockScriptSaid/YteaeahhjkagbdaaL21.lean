/-
  Package scullerylaw21: awake, told.
-/
import Derived.Test.YteaeahhjkagbdaaBlk2
namespace Go.Proofs.Yteaeahhjkagbdaa
open Go.RowKit
set_option linter.unusedSimpArgs false
set_option linter.unusedVariables false

theorem IsBM.ptr {v : Value} {m : BM} {H : HL} (h : IsBM v m H) : ∃ b, v = .pointer (some ⟨b, 0, none⟩) := by obtain ⟨b, _, _, hv, _⟩ := h; exact ⟨b, hv⟩
theorem fill_ne : fillL 3 128 ≠ List.replicate 128 0 := by decide
theorem fill_len (n : Int) (z : Nat) (h : z ≤ 300) : (fillL n (z : Int)).length = z := by
  unfold fillL; rw [if_pos (by omega)]; simp
theorem new_at (n z : Nat) (i : Int) (h0 : 0 ≤ i) (h1 : i < n) : (BM.new n z).at_ i = [List.replicate z 0] := by
  have : i.toNat < n := by omega
  simp [BM.at_, BM.new, List.getD, this]
theorem new_there (n z : Nat) (i : Int) : (BM.new n z).there i = decide (0 ≤ i ∧ i < n) := by simp [BM.there, BM.new]
theorem new_sure (n z : Nat) (i : Int) (h0 : 0 ≤ i) (h1 : i < n) : (BM.new n z).sure i = some (List.replicate z 0) := by
  simp [BM.sure, new_at n z i h0 h1, new_there, h0, h1]
theorem write_ok {m : BM} {i : Int} {b : List UInt8} (ht : m.there i = true) (hl : (b.length : Int) = m.size) (hg : m.given = false) : m.write i b 0 [] = (true, m.put i [b]) := by
  simp [BM.write, ht, hl, hg]
theorem read_ok {m : BM} {i : Int} {b : List UInt8} (hc : m.can i b = true) : m.read i 0 b = (true, m.put i [b]) := by
  have ht : m.there i = true := by unfold BM.can at hc; simp at hc; exact hc.1
  simp [BM.read, ht, hc]
theorem read_no {m : BM} {i : Int} {b : List UInt8} (ht : m.there i = true) (hc : m.can i b = false) (hg : m.given = false) : m.read i 0 b = (false, m) := by
  simp [BM.read, ht, hc, hg]
theorem put_there (m : BM) (i j : Int) (l) : (m.put i l).there j = m.there j := by simp [BM.there, BM.put]
theorem put_at (m : BM) (i : Int) (l) (h : m.there i = true) : (m.put i l).at_ i = l := by
  obtain ⟨h0, h1⟩ := BM.there_iff.1 h
  have : i.toNat < m.may.length := by omega
  simp [BM.at_, BM.put, List.getD, this]
theorem put_at_ne (m : BM) (i j : Int) (l) (h0 : 0 ≤ i) (h1 : 0 ≤ j) (h : i ≠ j) : (m.put i l).at_ j = m.at_ j := by
  have : i.toNat ≠ j.toNat := by omega
  simp [BM.at_, BM.put, List.getD, List.getElem?_set_ne this]

theorem can_put {m : BM} {i : Int} {l : List (List UInt8)} {b : List UInt8} (ht : m.there i = true) : (m.put i l).can i b = decide (b ∈ l) := by
  have h1 := put_at m i l ht
  have h2 : (m.put i l).there i = true := by simpa [BM.there, BM.put] using ht
  simp [BM.can, h1, h2]
set_option maxRecDepth 20000 in
set_option maxHeartbeats 1000000 in
theorem awake_any (w : World) (Fr : HL) (hH : Holds w Fr) : Calls Try.prog 14 #[] w (RetFr (.bool true) w Fr) := by
  obtain ⟨zs, hzs, hzn, hmk⟩ := make_bytes 128 (by omega)
  have hmk : ∀ w : World, (Instr.makeSlice 31 (.int .i64 128) (.int .i64 128)).run Try.prog w = .ok (.slice (some ⟨w.heap.size, 0, none⟩) 128 128) (w.alloc (.cells zs 5)) := hmk
  have HZS := Lib.hid hzs; clear hzs
  have HZN := Lib.hid hzn; clear hzn
  have hmt : (BM.new 4 128).there 0 = true := by rw [new_there]; rfl
  have HT := Lib.hid hmt; clear hmt
  go_enter Try.func14, Try.ntmps14
  go_wp2_with fail
  refine (bnew_good 4 128 Fr w hH (by omega) (by omega) (by omega) (by omega)).mono ?_
  rintro e w1 ⟨v1, H1, rfl, hm1, hH1, hg1⟩
  obtain ⟨b, rfl⟩ := hm1.ptr
  have HM1 := Lib.hid hm1; clear hm1
  go_wp2_with fail
  have hs := bsure_any _ _ H1 Fr 0 w1 HM1.out hH1 (by rw [new_at _ _ _ (by omega) (by omega)]; simp)
  rw [new_sure _ _ _ (by omega) (by omega)] at hs
  refine hs.mono ?_
  rintro e w2 ⟨v2, H2, rfl, hb2, hH2, hg2⟩
  clear hs
  have HB2 := Lib.hid hb2; clear hb2
  go_wp2_with fail
  refine (fill_any 3 128 w2 _ hH2 (by omega)).mono ?_
  rintro e w3 ⟨v3, H3, rfl, hb3, hH3, hg3⟩
  have HB3 := Lib.hid hb3; clear hb3
  go_wp2_with fail
  have hH3' : Holds w3 (H1 ++ (H3 ++ (H2 ++ Fr))) := hH3.sub (fun p hp => by simp only [List.mem_append, List.mem_cons, List.not_mem_nil, or_false] at hp ⊢; grind) (fun b => by simp only [keyc_append, keyc_cons, keyc_nil]; omega)
  have hwr := bwrite_none _ _ H1 (H3 ++ (H2 ++ Fr)) 0 v3 (fillL 3 128) 0 none 0 w3 HM1.out hH3' (FrBytes.left (fun wx hx => HB3.out.at_ (Fr := []) (by simpa using hx))) (by rw [new_at _ _ _ (by omega) (by omega)]; simp)
  have he : (BM.new 4 128).write 0 (fillL 3 128) 0 [] = (true, (BM.new 4 128).put 0 [fillL 3 128]) := write_ok HT.out (by rw [show (128 : Int) = ((128 : Nat) : Int) from rfl, fill_len 3 128 (by omega)]; rfl) rfl
  rw [he] at hwr
  refine hwr.mono ?_
  rintro e w4 ⟨rfl, H4, hm4, hH4, hg4⟩
  have HM4 := Lib.hid hm4; clear hm4 hwr he hH3'
  have HZ4 : ∀ wx : World, BytesAt (wx.alloc (.cells zs 5)) (.slice (some ⟨wx.heap.size, 0, none⟩) 128 128) (List.replicate 128 0) ∧ IsBytes (.slice (some ⟨wx.heap.size, 0, none⟩) 128 128) (List.replicate 128 0) [(wx.heap.size, .cells zs 5)] := by
    intro wx
    have h := IsRow.made (size := 1) (e := 5) wx.heap.size 128 zs (by rw [HZN.out]) (by simp [maxLen])
    rw [HZS.out] at h
    exact ⟨IsBytes.at_ (Fr := []) h ((Holds.nil_ wx).alloc _), h⟩
  have HZB := Lib.hid HZ4; clear HZ4
  go_wp2_with fail
  have hrd := bread_any _ _ H4 ([(w4.heap.size, .cells zs 5)] ++ (H3 ++ (H2 ++ Fr))) 0 0 (.slice (some ⟨w4.heap.size, 0, none⟩) 128 128) (List.replicate 128 0) (w4.alloc (.cells zs 5)) HM4.out (Holds.swap (A := [_]) (hH4.alloc _)) (FrBytes.left (fun wx hx => (HZB.out w4).2.at_ (Fr := []) (by simpa using hx)))
  have hne : ((BM.new 4 128).put 0 [fillL 3 128]).can 0 (List.replicate 128 0) = false := by
    rw [can_put HT.out]; simp only [List.mem_singleton]; exact decide_eq_false (fun e => fill_ne e.symm)
  rw [read_no (by rw [put_there]; exact HT.out) hne rfl] at hrd
  refine hrd.mono ?_
  rintro e w5 ⟨rfl, H5, hm5, hH5, hg5⟩
  have HM5 := Lib.hid hm5; clear hm5 hrd hne
  go_wp2_with fail
  refine (fill_any 3 128 w5 _ hH5 (by omega)).mono ?_
  rintro e w6 ⟨v6, H6, rfl, hb6, hH6, hg6⟩
  obtain ⟨A6, q6, rfl⟩ := hb6.val
  have HB6 := Lib.hid hb6; clear hb6
  go_wp2_with fail
  have hrd := bread_any _ _ H5 (H6 ++ ([(w4.heap.size, .cells zs 5)] ++ (H3 ++ (H2 ++ Fr)))) 0 0 _ (fillL 3 128) w6 HM5.out hH6.swap (FrBytes.left (fun wx hx => HB6.out.at_ (Fr := []) (by simpa using hx)))
  have hye : ((BM.new 4 128).put 0 [fillL 3 128]).can 0 (fillL 3 128) = true := by rw [can_put HT.out]; simp
  rw [read_ok hye] at hrd
  refine hrd.mono ?_
  rintro e w7 ⟨rfl, H7, hm7, hH7, hg7⟩
  have HM7 := Lib.hid hm7; clear hm7 hrd hye
  go_wp2_with fail
  have hH8 := hH7.alloc' (.cells zs 5)
  have hB2 : BytesAt (w7.alloc (.cells zs 5)) v2 (List.replicate 128 0) := IsBytes.at_ (H := H2) (Fr := Fr) HB2.out (hH8.sub (fun p hp => by simp only [List.mem_append, List.mem_cons, List.not_mem_nil, or_false] at hp ⊢; grind) (fun b => by simp only [keyc_append, keyc_cons, keyc_nil]; omega))
  have hsm := same_any v2 _ _ _ (w7.alloc (.cells zs 5)) hB2 (HZB.out w7).1
  rw [decide_eq_true rfl] at hsm
  refine hsm.mono ?_
  rintro e w8 ⟨rfl, q, rfl⟩
  clear hsm hB2
  go_wp2_with fail
  have hgv := bgiven_any _ _ H7 _ _ HM7.out (hH8.drewN q)
  rw [show ((((BM.new 4 128).put 0 [fillL 3 128]).put 0 [fillL 3 128]).given) = false from rfl] at hgv
  refine hgv.mono ?_
  rintro e w9 ⟨rfl, rfl⟩
  clear hgv
  go_wp2_with fail
  refine (bnew_bad 0 128 _ (by omega)).mono ?_
  rintro e w10 ⟨rfl, rfl⟩
  go_wp2
  go_ret
  have hga := ((hg1.trans hg2).trans (hg3.trans hg4)).trans ((((Grew.refl w4).alloc _).trans hg5).trans (hg6.trans hg7))
  exact ⟨rfl, (hH8.sub (fun p hp => by simp only [List.mem_append, List.mem_cons, List.not_mem_nil, or_false] at hp ⊢; grind) (fun b => by simp only [keyc_append, keyc_cons, keyc_nil]; omega)).drewN q, (hga.alloc _).drewN q⟩
end Go.Proofs.Yteaeahhjkagbdaa
