/-
  BlockLast: the plain law, and the walk.
-/
import Derived.Test.YteaeahhjkagbdaaL21
import Derived.Test.YteaeahhjkagbdaaOpen
import Derived.Test.YteaeahhjkagbdaaBys
namespace Go.Proofs.Yteaeahhjkagbdaa
open Go.RowKit
set_option linter.unusedVariables false
set_option linter.unusedSimpArgs false

/-- the model's sector 2 has just what the law keeps -/
def LastM (m : BM) (may : List (List UInt8)) : Prop :=
  m.size = 128 ∧ m.given = false ∧ m.may.length = 3 ∧ m.at_ 1 = [List.replicate 128 0] ∧ (∀ b, b ∈ m.at_ 2 ↔ b ∈ may) ∧ (m.at_ 2).Nodup ∧ (m.at_ 2).length ≤ may.length ∧ may ≠ [] ∧ ∀ b ∈ may, b.length = 128
section
variable {m : BM} {may : List (List UInt8)} {b x : List UInt8}
theorem LastM.there (h : LastM m may) (i : Int) (h0 : 0 ≤ i) (h1 : i < 3) : m.there i = true := by
  rw [BM.there_iff]; have := h.2.2.1; omega
theorem last_new : LastM (BM.new 3 128) [List.replicate 128 0] := by
  refine ⟨rfl, rfl, by simp [BM.new], new_at _ _ _ (by omega) (by omega), ?_, ?_, ?_, by simp, by simp⟩
  all_goals rw [new_at _ _ _ (by omega) (by omega)]
  all_goals simp
theorem last_put (h : LastM m may) {l l2 : List (List UInt8)} (hm : ∀ b, b ∈ l ↔ b ∈ l2) (hn : l.Nodup) (hl : l.length ≤ l2.length) (h0 : l2 ≠ []) (h1 : ∀ b ∈ l2, b.length = 128) : LastM (m.put 2 l) l2 := by
  have ht := h.there 2 (by omega) (by omega)
  obtain ⟨a1, a2, a3, a4, _⟩ := h
  refine ⟨a1, a2, by simpa [BM.put] using a3, by rw [put_at_ne _ _ _ _ (by omega) (by omega) (by omega)]; exact a4, ?_, ?_, ?_, h0, h1⟩
  all_goals rw [put_at _ _ _ ht]
  · exact hm
  · exact hn
  · exact hl
theorem last_ok (h : LastM m may) (hb : b.length = 128) : (m.write 2 b 0 []).1 = true ∧ LastM (m.write 2 b 0 []).2 [b] := by
  have ht := h.there 2 (by omega) (by omega)
  rw [write_ok ht (by rw [hb, h.1]; rfl) h.2.1]
  exact ⟨rfl, last_put h (fun _ => Iff.rfl) (by simp) (by simp) (by simp) (by simpa using hb)⟩
theorem last_fail (h : LastM m may) (hb : b.length = 128) : (m.write 2 b 5 []).1 = true ∧ LastM (m.write 2 b 5 []).2 (may ++ [b]) := by
  have ht := h.there 2 (by omega) (by omega)
  have hw : m.write 2 b 5 [] = (true, m.also 2 b) := by
    have h1 : (b.length : Int) = m.size := by rw [hb, h.1]; rfl
    simp [BM.write, ht, h1, h.2.1]
  rw [hw]
  refine ⟨rfl, ?_⟩
  have hc : m.can 2 b = decide (b ∈ m.at_ 2) := by simp [BM.can, ht]
  obtain ⟨a1, a2, a3, a4, a5, a6, a7, a8, a9⟩ := h
  unfold BM.also
  rw [hc]
  by_cases hbm : b ∈ m.at_ 2
  · simp only [hbm, decide_true, if_true]
    refine ⟨a1, a2, a3, a4, fun c => ?_, a6, by simp; omega, by simp, ?_⟩
    · rw [a5, List.mem_append, List.mem_singleton]
      exact ⟨.inl, fun h => h.elim id (fun e => by subst e; exact (a5 _).1 hbm)⟩
    · intro c hc; rcases List.mem_append.1 hc with h | h
      · exact a9 c h
      · rw [List.mem_singleton.1 h]; exact hb
  · simp only [hbm, decide_false, if_false]
    refine last_put ⟨a1, a2, a3, a4, a5, a6, a7, a8, a9⟩ (fun c => ?_) ?_ (by simp; omega) (by simp) ?_
    · simp only [List.mem_append, List.mem_singleton, a5]
    · rw [List.nodup_append]; exact ⟨a6, by simp, by intro c hcm d hd; rw [List.mem_singleton.1 hd]; intro e; subst e; exact hbm hcm⟩
    · intro c hc; rcases List.mem_append.1 hc with h | h
      · exact a9 c h
      · rw [List.mem_singleton.1 h]; exact hb
theorem last_can (h : LastM m may) (hx : x ∈ may) : m.can 2 x = true := by
  simp [BM.can, h.there 2 (by omega) (by omega), (h.2.2.2.2.1 x).2 hx]
theorem last_read (h : LastM m may) (hx : x ∈ may) : m.read 2 0 x = (true, m.put 2 [x]) := read_ok (last_can h hx)
theorem last_read_can (h : LastM m may) : (m.put 2 [x]).can 2 b = decide (b = x) := by
  rw [can_put (h.there 2 (by omega) (by omega))]; simp
theorem last_sure1 (h : LastM m may) : (m.put 2 [x]).sure 1 = some (List.replicate 128 0) := by
  have h1 : (m.put 2 [x]).there 1 = true := by rw [put_there]; exact h.there 1 (by omega) (by omega)
  have h2 : (m.put 2 [x]).at_ 1 = [List.replicate 128 0] := by rw [put_at_ne _ _ _ _ (by omega) (by omega) (by omega)]; exact h.2.2.2.1
  simp [BM.sure, h1, h2]
theorem last_sure (h : LastM m may) (h0 : 0 < may.length) : m.sure 2 = if decide (∀ b ∈ may, b = may[0]) then some may[0] else none := by
  have ht := h.there 2 (by omega) (by omega)
  obtain ⟨a1, a2, a3, a4, a5, a6, a7, a8, a9⟩ := h
  unfold BM.sure
  rw [ht, Bool.true_and]
  have h1 : may[0] ∈ m.at_ 2 := (a5 _).2 (List.getElem_mem h0)
  by_cases ha : ∀ b ∈ may, b = may[0]
  · rw [decide_eq_true ha]
    have : m.at_ 2 = [may[0]] := by
      generalize m.at_ 2 = l at *
      match l with
      | [] => simp at h1
      | [c] => rw [ha c ((a5 c).1 (by simp))]
      | c :: d :: r =>
        have e1 := ha c ((a5 c).1 (by simp))
        have e2 := ha d ((a5 d).1 (by simp))
        rw [e1, e2] at a6
        simp at a6
    simp [this]
  · rw [decide_eq_false ha]
    have : (m.at_ 2).length ≠ 1 := by
      intro e
      apply ha
      intro b hb
      have hb2 := (a5 b).2 hb
      generalize m.at_ 2 = l at *
      match l, e with
      | [c], _ =>
        rw [List.mem_singleton.1 h1, List.mem_singleton.1 hb2]
    simp [this]
end

/-- whether all are as the first one, so far -/
def alikeTo (may : List (List UInt8)) (k : Nat) (x0 : List UInt8) : Bool := decide (∀ b ∈ may.take k, b = x0)
theorem alike_succ {may : List (List UInt8)} {k : Nat} {x0 : List UInt8} (hk : k < may.length) : alikeTo may (k + 1) x0 = (alikeTo may k x0 && decide (may[k] = x0)) := by
  unfold alikeTo
  rw [List.take_succ_eq_append_getElem hk]
  by_cases h1 : ∀ b ∈ may.take k, b = x0
  · by_cases h2 : may[k] = x0
    · rw [decide_eq_true h1, decide_eq_true h2]
      simp only [Bool.and_true, decide_eq_true_eq]
      intro b hb; rcases List.mem_append.1 hb with h | h
      · exact h1 b h
      · rw [List.mem_singleton.1 h]; exact h2
    · rw [decide_eq_false h2]
      simp only [Bool.and_false, decide_eq_false_iff_not]
      exact fun h => h2 (h _ (List.mem_append_right _ (by simp)))
  · rw [decide_eq_false h1]
    simp only [Bool.false_and, decide_eq_false_iff_not]
    exact fun h => h1 fun b hb => h b (List.mem_append_left _ hb)

theorem alike_next {may : List (List UInt8)} {k : Nat} {x x0 : List UInt8} (hx : may[k]? = some x) : alikeTo may (k + 1) x0 = (alikeTo may k x0 && decide (x = x0)) := by
  obtain ⟨hk, rfl⟩ := List.getElem?_eq_some_iff.1 hx
  exact alike_succ hk

/-- the three loops -/
def LastTo (p : Nat) (n : Nat) (w : World) (Fr : HL) (mv iv : Value) (wr : World) : Prop :=
  ∃ (k : Nat) (m : BM) (may : List (List UInt8)) (H Hv : HL), k ≤ n ∧ iv = .int .i64 k ∧ LastM m may ∧ may.length ≤ k + 1 ∧ IsBM (.pointer (some ⟨p, 0, none⟩)) m H ∧ IsBys mv may Hv ∧ Holds wr (H ++ (Hv ++ Fr)) ∧ Grew w wr
def AlikeTo (may : List (List UInt8)) (n : Nat) (x0 : List UInt8) (w : World) (av iv : Value) (wr : World) : Prop :=
  ∃ k q : Nat, k ≤ n ∧ iv = .int .i64 k ∧ av = .bool (alikeTo may k x0) ∧ wr = w.drewN q
def CanTo (n : Nat) (w : World) (iv : Value) (wr : World) : Prop := ∃ k q : Nat, k ≤ n ∧ iv = .int .i64 k ∧ wr = w.drewN q

theorem ints_at {w : World} {A : Option Addr} {c n : Nat} {zs : List Int} (h : IntsAt w (.slice A n c) zs) {i : Nat} (hi : i < zs.length) : ∃ b o, A = some ⟨b, o, none⟩ ∧ w.cell? ⟨b, o + i, none⟩ = some (.int .i64 zs[i]) := by
  obtain ⟨⟨_, A', c', hv, _, _, h1⟩, _⟩ := h
  injection hv with hv1 _ hv3
  subst hv1
  obtain ⟨b, o, rfl, h4⟩ := h1 (by omega)
  exact ⟨b, o, rfl, h4 i _ (by simp [hi])⟩

set_option maxRecDepth 100000 in
set_option maxHeartbeats 4000000 in
theorem last_walk (v : Value) (ns : List Int) (fails pick : Int) (w : World) (ha : IntsAt w v ns) :
    Calls Try.prog 6 #[v, .int .i64 fails, .int .i64 pick] w (RetFr (.bool true) w (allOf w)) := by
  have hH := holds_all w
  have hn := ha.1.le
  unfold maxLen at hn
  obtain ⟨zs, hzs, hzn, hmk⟩ := make_bytes 128 (by omega)
  have hmk : ∀ w : World, (Instr.makeSlice 31 (.int .i64 128) (.int .i64 128)).run Try.prog w = .ok (.slice (some ⟨w.heap.size, 0, none⟩) 128 128) (w.alloc (.cells zs 5)) := hmk
  have HZS := Lib.hid hzs; clear hzs
  have HZN := Lib.hid hzn; clear hzn
  have HAC := Lib.hid (fun (wx : World) (h : Holds wx (allOf w)) => (⟨ha.1.keep (w' := wx) (fun p u hp => all_cell (H := []) (by simpa using h) hp), ha.2⟩ : IntsAt wx v ns))
  obtain ⟨⟨_, A, c, rfl, hc1, hc2, _⟩, _⟩ := ha
  generalize allOf w = Fr at *
  by_cases h20 : 20 < (ns.length : Int)
  · have h21 : 20 < ns.length := by omega
    go_enter Try.func6, Try.ntmps6
    go_wp2_with fail
    refine (awake_any _ _ hH).mono ?_
    rintro e w1 ⟨rfl, hH1, hg1⟩
    go_wp2
    go_ret
    exact ⟨rfl, hH1, hg1⟩
  · go_enter Try.func6, Try.ntmps6
    go_wp2_with fail
    refine (bnew_good 3 128 Fr w hH (by omega) (by omega) (by omega) (by omega)).mono ?_
    rintro e w1 ⟨v1, H1, rfl, hm1, hH1, hg1⟩
    obtain ⟨p, rfl⟩ := hm1.ptr
    have HM1 := Lib.hid hm1; clear hm1
    go_wp2_with fail
    have hz5 := IsRow.made (size := 1) (e := 5) w1.heap.size 128 zs (by rw [HZN.out]) (by simp [maxLen])
    rw [HZS.out] at hz5
    have hv5 := IsBys.one (b := w1.heap.size + 1) (x := List.replicate 128 0) (by unfold IsBytes; simpa using hz5)
    have hH5 := (hH1.alloc (.cells zs 5)).alloc (.cells #[.slice (some ⟨w1.heap.size, 0, none⟩) 128 128] 31)
    have hG5 := (hg1.alloc (.cells zs 5)).alloc (.cells #[.slice (some ⟨w1.heap.size, 0, none⟩) 128 128] 31)
    rw [World.size_alloc] at hH5
    have HV5 := Lib.hid hv5
    clear hz5 hv5
    go_loopw [8, 9] (fun mv iv wr => LastTo p ns.length w Fr mv iv wr) (fun _ iv _ => ns.length - (intOf iv).toNat)
    case atStart =>
      exact ⟨0, _, _, H1, _, by omega, rfl, last_new, by simp, HM1.out, HV5.out, hH5.sub (fun p hp => by simp only [List.mem_append, List.mem_cons, List.not_mem_nil, or_false] at hp ⊢; grind) (fun b => by simp only [keyc_append, keyc_cons, keyc_nil]; omega), hG5⟩
    case round =>
      obtain ⟨k, m, may, H, Hv, hk, rfl, hlm, hle, hm, hv, hHr, hgr⟩ := hrel
      have HM := Lib.hid hm; clear hm
      have HL := Lib.hid hlm; clear hlm
      obtain ⟨A7, c7, rfl, _, _⟩ := hv.val
      have HV := Lib.hid hv; clear hv
      by_cases hlt : k < ns.length
      · have hns := HAC.out wr hHr.right.right
        obtain ⟨b0, o0, rfl, hcell⟩ := ints_at hns hlt
        generalize ns[k] = z at hcell
        clear hns
        go_wp2_with fail
        refine (fill_any z 128 wr _ hHr (by omega)).mono ?_
        rintro e w2 ⟨vb, Hb, rfl, hb, hH2, hg2⟩
        have hlb : (fillL z 128).length = 128 := fill_len z 128 (by omega)
        generalize fillL z 128 = bs at *
        obtain ⟨Ab, cb, rfl⟩ := hb.val
        have HB := Lib.hid hb; clear hb
        have HLB := Lib.hid hlb; clear hlb
        have hG2 := hgr.trans hg2
        clear hg2 hcell hHr hgr
        cases hbit : (bits BinOp.and IntKind.i64 (fails / 2 ^ k) 1 == 1)
        · have hHx := (hH2.alloc (.cells #[.slice Ab bs.length cb] 31))
          have hGx := hG2.alloc (.cells #[.slice Ab bs.length cb] 31)
          have hVx : IsBys (.slice (some ⟨w2.heap.size, 0, none⟩) 1 1) [bs] ((w2.heap.size, .cells #[.slice Ab bs.length cb] 31) :: Hb) := IsBys.one HB.out
          have HVX := Lib.hid hVx; clear hVx
          go_wp2_with fail
          generalize w2.alloc (.cells #[.slice Ab bs.length cb] 31) = w3 at *
          generalize w2.heap.size = g at *
          have hH3 : Holds w3 (H ++ (((g, .cells #[.slice Ab bs.length cb] 31) :: Hb) ++ Fr)) := Holds.mid (B := Hv) (A := H ++ ((g, .cells #[.slice Ab bs.length cb] 31) :: Hb)) (C := Fr) (hHx.sub (fun p hp => by simp only [List.mem_append, List.mem_cons, List.not_mem_nil, or_false] at hp ⊢; grind) (fun b => by simp only [keyc_append, keyc_cons, keyc_nil]; omega)) |>.sub (fun p hp => by simp only [List.mem_append, List.mem_cons, List.not_mem_nil, or_false] at hp ⊢; grind) (fun b => by simp only [keyc_append, keyc_cons, keyc_nil]; omega)
          have hw := bwrite_none _ m H _ 2 (.slice Ab bs.length cb) bs 0 none 0 w3 HM.out hH3 (FrBytes.left (FrBytes.right (A := [_]) (fun wx hx => HB.out.at_ (Fr := []) (by simpa using hx)))) (by have := HL.out.2.2.2.2.2.2.1; omega)
          have hlo := last_ok HL.out HLB.out
          rw [hlo.1] at hw
          refine hw.mono ?_
          rintro e w4 ⟨rfl, H4, hm4, hH4, hg4⟩
          have hfin : LastTo p ns.length w Fr (.slice (some ⟨g, 0, none⟩) 1 1) (.int .i64 ((k : Int) + 1)) w4 :=
            ⟨k + 1, _, _, H4, _, by omega, by go_num, hlo.2, by simp, hm4, HVX.out, hH4, hGx.trans hg4⟩
          have HF := Lib.hid hfin; clear hfin hw hlo hm4 hH4 hg4 hH3 hHx hGx
          go_wp2
          exact ⟨HF.out, by simp [intOf]; omega⟩
        · obtain ⟨cells, H0, Hq, hHv, hrow, hadd⟩ := Rows2.parts2 HV.out
          have HROW := Lib.hid hrow; clear hrow
          have HADD := Lib.hid hadd; clear hadd
          subst hHv
          have hHx := (hH2.alloc' (.cells #[.slice Ab bs.length cb] 31))
          have hGx := hG2.alloc (.cells #[.slice Ab bs.length cb] 31)
          have hHy : Holds (w2.alloc (.cells #[.slice Ab bs.length cb] 31)) (H0 ++ (Hq ++ (Hb ++ (H ++ Fr)))) := hHx.sub (fun p hp => by simp only [List.mem_append, List.mem_cons, List.not_mem_nil, or_false] at hp ⊢; grind) (fun b => by simp only [keyc_append, keyc_cons, keyc_nil]; omega)
          have HHY := Lib.hid hHy; clear hHy hHx hH2
          go_wp2_with (at_builtin; refine wpList_append_T tBytess (by rfl) (.tmp 45) (.tmp 47) (by rfl) (by rfl) (by rfl) HROW.out HHY.out ReadsAt.one (by simp [Value.oneCell']) (by simp [maxLen]; omega) (by omega) ?_; intro A' c' w3 H3 hrow3 hH3 hg3)
          have hV3 : IsBys (.slice A' (may.length + 1) c') (may ++ [bs]) (H3 ++ (Hq ++ Hb)) := HADD.out _ _ _ _ _ rfl ⟨_, rfl, HB.out⟩ hrow3
          have HV3 := Lib.hid hV3; clear hV3 hrow3
          have hH4 : Holds w3 (H ++ ((H3 ++ (Hq ++ Hb)) ++ Fr)) := hH3.sub (fun p hp => by simp only [List.mem_append, List.mem_cons, List.not_mem_nil, or_false] at hp ⊢; grind) (fun b => by simp only [keyc_append, keyc_cons, keyc_nil]; omega)
          have hw := bwrite_none _ m H _ 2 (.slice Ab bs.length cb) bs 5 none 0 w3 HM.out hH4 (FrBytes.left (FrBytes.right (FrBytes.right (fun wx hx => HB.out.at_ (Fr := []) (by simpa using hx))))) (by have := HL.out.2.2.2.2.2.2.1; omega)
          have hlo := last_fail HL.out HLB.out
          rw [hlo.1] at hw
          refine hw.mono ?_
          rintro e w4 ⟨rfl, H4, hm4, hH5, hg4⟩
          have hfin : LastTo p ns.length w Fr (.slice A' (may.length + 1) c') (.int .i64 ((k : Int) + 1)) w4 :=
            ⟨k + 1, _, _, H4, _, by omega, by go_num, hlo.2, by simp; omega, hm4, HV3.out, hH5, (hGx.trans hg3).trans hg4⟩
          have HF := Lib.hid hfin; clear hfin hw hlo hm4 hH4 hg4 hH3 hH5 hGx
          go_wp2
          exact ⟨HF.out, by simp [intOf]; omega⟩
      · obtain rfl : k = ns.length := by omega
        have h0 : 0 < may.length := by have := HL.out.2.2.2.2.2.2.2.1; cases may with | nil => exact absurd rfl this | cons a l => simp
        obtain ⟨n, hnl⟩ : ∃ n, may.length = n := ⟨_, rfl⟩
        have hml : n ≤ 21 := by omega
        obtain ⟨x0, hX0⟩ : ∃ x0, may[0] = x0 := ⟨_, rfl⟩
        obtain ⟨_, g, rfl, hget⟩ := HV.out.get2 h0
        rw [hnl] at hget
        have hg0 : may[0]? = some x0 := by rw [← hX0]; exact List.getElem?_eq_getElem h0
        have hsu : m.sure 2 = if alikeTo may n x0 then some x0 else none := by
          rw [last_sure HL.out h0]; unfold alikeTo; rw [← hnl, List.take_length, hX0]
        have HSU := Lib.hid hsu
        have HGET := Lib.hid hget
        rw [hnl] at h0
        clear hget hX0 hle HV hsu
        rw [hnl]
        clear hnl
        go_wp2_with fail
        go_loopw [12, 13] (fun av iv ws => AlikeTo may n x0 wr av iv ws) (fun _ iv _ => n - (intOf iv).toNat)
        case atStart => exact ⟨0, 0, by omega, rfl, by simp [alikeTo], rfl⟩
        case round =>
          obtain ⟨j, q, hj, rfl, rfl, rfl⟩ := hrel
          by_cases hlt2 : j < n
          · obtain ⟨ej, xj, hxj, hgj⟩ := HGET.out j hlt2
            obtain ⟨hcj, hbj⟩ := hgj wr _ hHr.swap
            obtain ⟨e0, _, hx0, hgj0⟩ := HGET.out 0 h0
            obtain ⟨hc0, hb0⟩ := hgj0 wr _ hHr.swap
            rw [hg0] at hx0; cases hx0
            clear hgj hgj0
            have hsm := fun n => same_any ej e0 xj x0 (wr.drewN n) (ReadsAt.drewN hbj n) (ReadsAt.drewN hb0 n)
            have hcn := fun n => can_any _ m H _ 2 ej xj (wr.drewN n) HM.out (hHr.drewN n) (ReadsAt.drewN hbj n)
            rw [last_can HL.out (List.mem_of_getElem? hxj)] at hcn
            have hnx := alike_next (x0 := x0) hxj
            obtain ⟨Aj, cj, rfl⟩ := hbj.val
            obtain ⟨A0, c0, rfl⟩ := hb0.val
            have HSM := Lib.hid hsm; clear hsm hbj hb0 hxj
            have HCN := Lib.hid hcn; clear hcn
            have HNX := Lib.hid hnx; clear hnx
            generalize hal : alikeTo may j x0 = al at *
            have z1 : (0:Int) < (n : Int) := by omega
            cases al
            · go_wp2
              go_quiet ((go_at_call 27; exact quietQ2 (HSM.out _)))
              go_wp2_with fail
              refine (HCN.out _).mono ?_
              rintro e ws ⟨rfl, q2, rfl⟩
              go_wp2
              go_roundw
              case rel => exact ⟨j + 1, q + nq + q2, by omega, by go_num, by rw [HNX.out]; rfl, rfl⟩
              case measure => simp [intOf]; omega
            · go_wp2
              go_quiet ((go_at_call 27; exact quietQ2 (HSM.out _)))
              go_wp2_with fail
              refine (HCN.out _).mono ?_
              rintro e ws ⟨rfl, q2, rfl⟩
              go_wp2
              go_roundw
              case rel => exact ⟨j + 1, q + nq + q2, by omega, by go_num, by rw [HNX.out]; simp, rfl⟩
              case measure => simp [intOf]; omega
          · obtain rfl : j = n := by omega
            have hHs := hHr.drewN q
            have hGs := hgr.drewN q
            generalize wr.drewN q = w2 at *
            clear hHr hgr
            have hsm : ∀ s ∈ m.at_ 2, s.length ≤ 1000000 := fun s hs => by have := HL.out.2.2.2.2.2.2.2.2 s ((HL.out.2.2.2.2.1 s).1 hs); omega
            have hsc := bsure_any _ m H _ 2 w2 HM.out hHs hsm
            rw [HSU.out] at hsc
            have hj0 := h0
            clear hsm HSU
            cases hal : alikeTo may j x0
            simp only [hal, Bool.false_eq_true, if_false] at hsc
            go_wp2_with fail
            refine hsc.mono ?_
            rintro e w3 ⟨v3, H3, rfl, hb3, hH3, hg3⟩
            obtain ⟨A3, c3, rfl⟩ := hb3.val
            have hHs3 := hH3.right
            have hGs3 := hGs.trans hg3
            clear hsc hb3 hH3 hg3 hHs hGs
            go_wp2_with fail
            have hHz := hHs3
            have hGz := hGs3
            clear hHs3 hGs3
            generalize w3 = wz at *
            rotate_left
            simp only [hal, if_true] at hsc
            go_wp2_with fail
            refine hsc.mono ?_
            rintro e w3 ⟨v3, H3, rfl, hb3, hH3, hg3⟩
            obtain ⟨A3, c3, rfl⟩ := hb3.val
            obtain ⟨e0, _, hx0, hgj0⟩ := HGET.out 0 h0
            obtain ⟨hc0, hb0⟩ := hgj0 w3 _ hH3.right.swap
            rw [hg0] at hx0; cases hx0
            obtain ⟨A0, c0, rfl⟩ := hb0.val
            have hsm := same_any _ _ _ _ w3 (hb3.at_ hH3) hb0
            rw [decide_eq_true (show (some x0).getD [] = x0 from rfl)] at hsm
            have hHs3 := hH3.right
            have hGs3 := hGs.trans hg3
            have HSM := Lib.hid hsm
            clear hsc hb3 hH3 hg3 hHs hGs hb0 hsm hgj0
            have z1 : (0:Int) < (j : Int) := by omega
            go_wp2_with fail
            refine HSM.out.mono ?_
            rintro e w4 ⟨rfl, q4, rfl⟩
            clear HSM
            have hHs4 := hHs3.drewN q4
            have hGs4 := hGs3.drewN q4
            clear hc0 hHs3 hGs3
            generalize w3.drewN q4 = w5 at *
            go_wp2_with fail
            have hHz := hHs4
            have hGz := hGs4
            clear hHs4 hGs4
            generalize w5 = wz at *
            rotate_right
            all_goals
              refine (low_any pick j wz (by omega) (by omega)).mono ?_
              rintro e w' ⟨rfl, rfl⟩
              have hk := low_bd pick j (by omega) (by omega)
              generalize lowI pick j = k0 at *
              obtain ⟨k, rfl⟩ := Int.eq_ofNat_of_zero_le hk.1
              have hkj : k < j := by omega
              obtain ⟨ek, xk, hxk, hgk⟩ := HGET.out k hkj
              obtain ⟨hck, hbk⟩ := hgk wz _ hHz.swap
              obtain ⟨Ak, ck, rfl⟩ := hbk.val
              have hfb : FrBytes (Hv ++ Fr) (.slice Ak xk.length ck) xk := fun wx hx => (hgk wx _ hx).2
              have hbb : ∀ (wx : World) (J : List (Nat × Obj)), Holds wx (J ++ (Hv ++ Fr)) → BytesAt wx (.slice Ak xk.length ck) xk := fun wx J hx => (hgk wx _ hx.swap).2
              have HBB := Lib.hid hbb
              have hrd := bread_any _ m H (Hv ++ Fr) 2 0 (.slice Ak xk.length ck) xk wz HM.out hHz hfb
              rw [last_read HL.out (List.mem_of_getElem? hxk)] at hrd
              have HRD := Lib.hid hrd
              clear hk hbk hgk hfb hrd hxk hbb hHz
              go_wp2_with fail
              refine HRD.out.mono ?_
              rintro e wy ⟨rfl, Hy, hmy, hHy, hgy⟩
              have hGy := hGz.trans hgy
              have HMY := Lib.hid hmy
              clear HRD hmy hgy hGz hck
              go_wp2_with fail
              go_loopw [17] (fun iv ws => CanTo j wy iv ws) (fun iv _ => j - (intOf iv).toNat)
              case atStart => exact ⟨0, 0, by omega, rfl, rfl⟩
              case round =>
                obtain ⟨i, q, hij, rfl, rfl⟩ := hrel
                by_cases hlt3 : i < j
                · obtain ⟨ei, xi, hxi, hgi⟩ := HGET.out i hlt3
                  obtain ⟨hci, hbi⟩ := hgi wy _ hHy.swap
                  obtain ⟨Ai, ci, rfl⟩ := hbi.val
                  have hsm := fun n => same_any _ _ xi xk (wy.drewN n) (ReadsAt.drewN hbi n) (HBB.out _ _ (hHy.drewN n))
                  have hcn := fun n => can_any _ _ Hy _ 2 _ xi (wy.drewN n) HMY.out (hHy.drewN n) (ReadsAt.drewN hbi n)
                  rw [last_read_can HL.out] at hcn
                  generalize decide (xi = xk) = bt at hsm hcn
                  have HSM := Lib.hid hsm
                  have HCN := Lib.hid hcn
                  clear hsm hcn hbi hgi hxi
                  go_wp2
                  go_quiet (first | (go_at_call 27; exact quietQ2 (HSM.out _)) | (go_at_call 29; exact quietQ2 (HCN.out _)))
                  go_wp2_with fail
                  go_roundw
                  case rel => exact ⟨i + 1, q + nq, by omega, by go_num, rfl⟩
                  case measure => simp [intOf]; omega
                · have hHq := hHy.drewN q
                  have hGq := hGy.drewN q
                  generalize wy.drewN q = wq at *
                  clear hHy hGy
                  have hsc := bsure_any _ _ Hy _ 1 wq HMY.out hHq (by rw [put_at_ne _ _ _ _ (by omega) (by omega) (by omega), HL.out.2.2.2.1]; intro s hs; simp at hs; subst hs; simp)
                  rw [last_sure1 HL.out] at hsc
                  have HSC := Lib.hid hsc
                  clear hsc
                  go_wp2_with fail
                  refine HSC.out.mono ?_
                  rintro e w4 ⟨v4, H4, rfl, hb4, hH4, hg4⟩
                  clear HSC
                  have HB4 := Lib.hid hb4; clear hb4
                  have hGt := hGq.trans hg4
                  go_wp2_with fail
                  have hz5 := IsRow.made (size := 1) (e := 5) w4.heap.size 128 zs (by rw [HZN.out]) (by simp [maxLen])
                  rw [HZS.out] at hz5
                  have hH5 := hH4.alloc (.cells zs 5)
                  have hG5 := hGt.alloc (.cells zs 5)
                  have hsm := same_any v4 (.slice (some ⟨w4.heap.size, 0, none⟩) 128 128) (List.replicate 128 0) (List.replicate 128 0) (w4.alloc (.cells zs 5)) (HB4.out.at_ (H := H4) (Fr := _) (Holds.right (A := [_]) hH5)) (IsRow.reads (H := [(w4.heap.size, .cells zs 5)]) hz5 hH5)
                  rw [decide_eq_true rfl] at hsm
                  refine hsm.mono ?_
                  rintro e w5 ⟨rfl, q5, rfl⟩
                  clear hsm hz5
                  have hH6 : Holds ((w4.alloc (.cells zs 5)).drewN q5) Fr := ((Holds.right (A := [_]) hH5).right.right.right).drewN q5
                  have hG6 := hG5.drewN q5
                  generalize (w4.alloc (.cells zs 5)).drewN q5 = w6 at *
                  clear hH5 hG5 hH4 hGt hg4 hHq hGq
                  go_wp2_with fail
                  refine (awake_any _ Fr hH6).mono ?_
                  rintro e w8 ⟨rfl, hH8, hg8⟩
                  go_wp2
                  go_ret
                  exact ⟨rfl, hH8, hG6.trans hg8⟩
end Go.Proofs.Yteaeahhjkagbdaa
