/-
  Chapter 22: Over, Behind, and the laws' own helpers on uint64s.
-/
import Derived.Test.YtdbcmjambajffaaSrt
import Derived.Test.YtdbcmjambajffaaLib
import Derived.Test.YtdbcmjambajffaaOrd2
import Derived.Deep.DeepCutAuto
namespace Go.Proofs.Ytdbcmjambajffaa
open Go.RowKit
set_option linter.unusedSimpArgs false
set_option linter.unusedVariables false

theorem tWs : SlT Try.prog 23 22 1 8 (.int .u64 0) := SlT.mk' (by kernel_rfl) (by kernel_rfl) (by rfl) (by decide)
def SameTo64 (xs ys : List Int) (w : World) (v : Value) (wr : World) : Prop := ∃ k m : Nat, k ≤ xs.length ∧ v = .int .i64 k ∧ xs.take k = ys.take k ∧ wr = w.drewN m
set_option maxHeartbeats 400000 in
theorem same64_any (va vb : Value) (xs ys : List Int) (w : World) (ha : WsAt w va xs) (hb : WsAt w vb ys) :
    Calls Try.prog 11 #[va, vb] w (RetQ w (.bool (decide (xs = ys)))) := by
  have hna := ReadsAt.le ha
  have hnb := ReadsAt.le hb
  unfold maxLen at hna hnb
  obtain ⟨_, A, ca, rfl, _, _, ha⟩ := ha
  obtain ⟨_, B, cb, rfl, _, _, hb⟩ := hb
  have Ha := Lib.hid ha
  have Hb := Lib.hid hb
  clear ha hb
  by_cases hl : xs.length = ys.length
  · have hl0 : ((xs.length : Int) != (ys.length : Int)) = false := by rw [hl]; simp
    have hl1 : (xs.length != ys.length) = false := by rw [hl]; simp
    have HL := Lib.hid hl
    clear hl
    go_enter Try.func11, Try.ntmps11
    go_wp2
    go_loopw [5] (fun v wr => SameTo64 xs ys w v wr) (fun v _ => xs.length - (intOf v).toNat)
    case atStart => exact ⟨0, 0, by omega, rfl, by simp, rfl⟩
    case round =>
      obtain ⟨k, m, hk, rfl, hrel, rfl⟩ := hrel
      have HR := Lib.hid hrel; clear hrel
      by_cases hlt : k < xs.length
      · have hlt2 : k < ys.length := by have := HL.out; omega
        obtain ⟨b1, o1, rfl, h1⟩ := Ha.out (by omega)
        obtain ⟨b2, o2, rfl, h2⟩ := Hb.out (by omega)
        have c1 : w.cell? ⟨b1, o1 + k, none⟩ = some (.int .u64 xs[k]) := h1 k _ (by simp [hlt])
        have c2 : w.cell? ⟨b2, o2 + k, none⟩ = some (.int .u64 ys[k]) := h2 k _ (by simp [hlt2])
        clear h1 h2
        by_cases hx : xs[k] = ys[k]
        · have e1 : (xs[k] != ys[k]) = false := by rw [hx]; simp
          have HX := Lib.hid hx; clear hx
          go_wp2
          go_quiet (fail)
          go_wp2
          go_roundw
          case rel => exact ⟨k + 1, m + nq, by omega, by go_num, by rw [List.take_succ_eq_append_getElem hlt, List.take_succ_eq_append_getElem hlt2, HR.out, HX.out], rfl⟩
          case measure => simp [intOf]; omega
        · have e1 : (xs[k] != ys[k]) = true := by simpa using hx
          have HX := Lib.hid hx; clear hx
          go_wp2
          go_quiet (fail)
          go_wp2
          go_ret
          exact ⟨ret_b (b := false) (decide_eq_false fun e => by subst e; exact HX.out rfl).symm, m + nq, drewN2 _ _ _⟩
      · go_wp2
        go_ret
        have h1 := HR.out
        have := HL.out
        rw [List.take_of_length_le (by omega), List.take_of_length_le (by omega)] at h1
        exact ⟨ret_b (b := true) (decide_eq_true h1).symm, m, rfl⟩
  · have hl0 : ((xs.length : Int) != (ys.length : Int)) = true := by simp; omega
    have hl1 : (xs.length != ys.length) = true := by simpa using hl
    go_enter Try.func11, Try.ntmps11
    go_wp2
    go_ret
    exact ⟨ret_b (b := false) (decide_eq_false fun e => by subst e; exact hl rfl).symm, 0, rfl⟩

def OverTo64 (v : Value) (n : Nat) (w : World) (Fr : HL) (i : Value) (wr : World) : Prop :=
  ∃ (k : Nat) (ys : List Value) (H : HL), k ≤ n ∧ i = .int .i64 k ∧ IsRow 22 1 v n ys H ∧ (∀ y ∈ ys, y.oneCell' = true) ∧ Holds wr (H ++ Fr) ∧ Grew w wr
set_option maxHeartbeats 400000 in
theorem over64_any (v : Value) (xs : List Int) (H Fr : HL) (w : World) (hb : IsWs v xs H) (hH : Holds w (H ++ Fr)) (hsm : xs.length ≤ 1000000) :
    Calls Try.prog 17 #[v] w (RetFr (.tuple #[]) w Fr) := by
  have hb' : IsRow 22 1 v xs.length (xs.map (Value.int .u64)) H := hb
  have h1 : ∀ y ∈ xs.map (Value.int .u64), y.oneCell' = true := by intro y hy; obtain ⟨x, _, rfl⟩ := List.mem_map.1 hy; rfl
  clear hb
  generalize xs.length = n at hb' hsm
  generalize xs.map (Value.int .u64) = ys at hb' h1
  obtain ⟨A, c, rfl⟩ := hb'.val
  have HB := Lib.hid hb'; clear hb'
  have H1 := Lib.hid h1; clear h1
  go_enter Try.func17, Try.ntmps17
  go_wp2
  go_loopw [2] (fun i wr => OverTo64 (.slice A n c) n w Fr i wr) (fun i _ => n - (intOf i).toNat)
  case atStart => exact ⟨0, ys, H, by omega, rfl, HB.out, H1.out, hH, Grew.refl w⟩
  case round =>
    obtain ⟨k, zs, H2, hk, rfl, hz, hz1, hH2, hg⟩ := hrel
    have HZ := Lib.hid hz; clear hz
    have HZ1 := Lib.hid hz1; clear hz1
    by_cases hlt : k < n
    · have hlz : zs.length = n := by have := HZ.out.1; simpa using this
      obtain ⟨g, cap, hv, hnc, hcm, hgl, hcell, hfro, hset⟩ := HZ.out.cell hH2 (j := k) (by omega)
      have HS := Lib.hid hset; clear hset
      injection hv with hv1 hv2 hv3
      subst hv1; subst hv3
      generalize zs[k] = z0 at hcell
      clear hlz hv2
      go_wp2
      obtain ⟨H3, hr, hh⟩ := HS.out wr Fr hH2 (.int .u64 999)
      refine ⟨⟨k + 1, _, H3, by omega, by go_num, hr, ?_, hh, hg.setCell _ _⟩, by simp [intOf]; omega⟩
      intro y hy
      rcases List.mem_or_eq_of_mem_set hy with h | rfl
      · exact HZ1.out y h
      · rfl
    · go_wp2_with (at_builtin; refine wpList_append_T tWs (by rfl) (.tmp 12) (.tmp 13) (by rfl) (by rfl) (by rfl) HZ.out (hH2.alloc' _) ReadsAt.one (by simp [Value.oneCell']) (by simp [maxLen]; omega) (by omega) ?_; intro A' c' w' H' hrow hH3 hg2)
      go_end0
      exact ⟨rfl, hH3.right, (hg.alloc _).trans hg2⟩

/-- is more dirty than so many of a hundred? -/
def fineB (n : Int) : Bool := decide (0 ≤ n ∧ n ≤ 1073741824)
def overB (d l p : Int) : Bool := decide ((0 ≤ d ∧ d ≤ 1073741824) ∧ (0 ≤ l ∧ l ≤ 1073741824) ∧ (0 ≤ p ∧ p ≤ 1073741824) ∧ p * l < 100 * d)
def fineP (n : Int) : Prop := 0 ≤ n ∧ n ≤ 1073741824
def OvTo (d l p : Int) (wA : World) (iv : Value) (wr : World) : Prop := ∃ j : Nat, j ≤ 3 ∧ iv = .int .i64 j ∧ wr = wA ∧ (1 ≤ j → fineP d) ∧ (2 ≤ j → fineP l) ∧ (3 ≤ j → fineP p)
theorem overB_no {d l p : Int} (h : ¬ (fineP d ∧ fineP l ∧ fineP p)) : overB d l p = false := by
  unfold overB; exact decide_eq_false fun ⟨h1, h2, h3, _⟩ => h ⟨h1, h2, h3⟩
set_option maxRecDepth 20000 in
set_option maxHeartbeats 1000000 in
theorem tdover_any (d l p : Int) (w : World) (Fr : HL) (hH : Holds w Fr) : Calls Try.prog 13 #[.int .i64 d, .int .i64 l, .int .i64 p] w (RetFr (.bool (overB d l p)) w Fr) := by
  have hHA := hH.alloc (.cells #[.int .i64 d, .int .i64 l, .int .i64 p] 3)
  have hGA := (Grew.refl w).alloc (.cells #[.int .i64 d, .int .i64 l, .int .i64 p] 3)
  have c0 : (w.alloc (.cells #[.int .i64 d, .int .i64 l, .int .i64 p] 3)).cell? ⟨w.heap.size, 0, none⟩ = some (.int .i64 d) := hHA.hcell 0
  have c1 : (w.alloc (.cells #[.int .i64 d, .int .i64 l, .int .i64 p] 3)).cell? ⟨w.heap.size, 1, none⟩ = some (.int .i64 l) := hHA.hcell 1
  have c2 : (w.alloc (.cells #[.int .i64 d, .int .i64 l, .int .i64 p] 3)).cell? ⟨w.heap.size, 2, none⟩ = some (.int .i64 p) := hHA.hcell 2
  have HHA := Lib.hid hHA
  clear hHA
  go_enter Try.func13, Try.ntmps13
  go_wp2_with fail
  generalize w.heap.size = b at *
  generalize w.alloc (.cells #[.int .i64 d, .int .i64 l, .int .i64 p] 3) = wA at *
  go_loopw [8, 14] (fun _ iv wr => OvTo d l p wA iv wr) (fun _ iv _ => 3 - (intOf iv).toNat)
  case atStart => exact ⟨0, by omega, rfl, rfl, fun h => by omega, fun h => by omega, fun h => by omega⟩
  case round =>
    obtain ⟨j, hj, rfl, rfl, f1, f2, f3⟩ := hrel
    obtain rfl | rfl | rfl | rfl : j = 0 ∨ j = 1 ∨ j = 2 ∨ j = 3 := by omega
    · clear f1 f2 f3
      by_cases h0 : d < 0
      · have hno := Lib.hid (overB_no (d := d) (l := l) (p := p) fun h => by have := h.1.1; omega)
        go_wp2_with fail
        go_ret
        rw [hno.out]; exact ⟨rfl, HHA.out.tail, hGA⟩
      · by_cases h1 : 1073741824 < d
        · have hno := Lib.hid (overB_no (d := d) (l := l) (p := p) fun h => by have := h.1.2; omega)
          go_wp2_with fail
          go_ret
          rw [hno.out]; exact ⟨rfl, HHA.out.tail, hGA⟩
        · go_wp2_with fail
          exact ⟨⟨1, by omega, by go_num, rfl, fun _ => ⟨by omega, by omega⟩, fun h => by omega, fun h => by omega⟩, by simp [intOf]⟩
    · have g1 := Lib.hid (f1 (by omega))
      clear f1 f2 f3
      by_cases h0 : l < 0
      · have hno := Lib.hid (overB_no (d := d) (l := l) (p := p) fun h => by have := h.2.1.1; omega)
        go_wp2_with fail
        go_ret
        rw [hno.out]; exact ⟨rfl, HHA.out.tail, hGA⟩
      · by_cases h1 : 1073741824 < l
        · have hno := Lib.hid (overB_no (d := d) (l := l) (p := p) fun h => by have := h.2.1.2; omega)
          go_wp2_with fail
          go_ret
          rw [hno.out]; exact ⟨rfl, HHA.out.tail, hGA⟩
        · go_wp2_with fail
          exact ⟨⟨2, by omega, by go_num, rfl, fun _ => g1.out, fun _ => ⟨by omega, by omega⟩, fun h => by omega⟩, by simp [intOf]⟩
    · have g1 := Lib.hid (f1 (by omega))
      have g2 := Lib.hid (f2 (by omega))
      clear f1 f2 f3
      by_cases h0 : p < 0
      · have hno := Lib.hid (overB_no (d := d) (l := l) (p := p) fun h => by have := h.2.2.1; omega)
        go_wp2_with fail
        go_ret
        rw [hno.out]; exact ⟨rfl, HHA.out.tail, hGA⟩
      · by_cases h1 : 1073741824 < p
        · have hno := Lib.hid (overB_no (d := d) (l := l) (p := p) fun h => by have := h.2.2.2; omega)
          go_wp2_with fail
          go_ret
          rw [hno.out]; exact ⟨rfl, HHA.out.tail, hGA⟩
        · go_wp2_with fail
          exact ⟨⟨3, by omega, by go_num, rfl, fun _ => g1.out, fun _ => g2.out, fun _ => ⟨by omega, by omega⟩⟩, by simp [intOf]⟩
    · obtain ⟨d0, d1⟩ := f1 (by omega)
      obtain ⟨l0, l1⟩ := f2 (by omega)
      obtain ⟨p0, p1⟩ := f3 (by omega)
      clear f1 f2 f3
      have m0 : 0 ≤ p * l := Int.mul_nonneg p0 l0
      have m1 : p * l ≤ 1073741824 * 1073741824 := Int.mul_le_mul p1 l1 l0 (by omega)
      have hyes : overB d l p = decide (p * l < 100 * d) := by
        unfold overB
        by_cases h : p * l < 100 * d
        · rw [decide_eq_true h, decide_eq_true ⟨⟨d0, d1⟩, ⟨l0, l1⟩, ⟨p0, p1⟩, h⟩]
        · rw [decide_eq_false h, decide_eq_false fun h2 => h h2.2.2.2]
      have HY := Lib.hid hyes
      clear hyes
      generalize hm : p * l = q at *
      have hw1 : wrap64 q = q := by unfold wrap64; omega
      have hw2 : wrap64 (100 * d) = 100 * d := by unfold wrap64; omega
      go_wp2_with fail
      go_ret
      rw [HY.out]; exact ⟨rfl, HHA.out.tail, hGA⟩

set_option maxRecDepth 20000 in
theorem r22fine_any (n : Int) (w : World) : Calls Try.prog 23 #[.int .i64 n] w fun e w' => e = .returned (.bool (decide (0 ≤ n ∧ n ≤ 1073741824))) ∧ w = w' := by
  by_cases h0 : 0 ≤ n
  · by_cases h1 : n ≤ 1073741824
    · go_enter Try.func23, Try.ntmps23
      go_wp2_with fail
      go_ret
      exact ⟨ret_b (by simp [h0, h1]), rfl⟩
    · go_enter Try.func23, Try.ntmps23
      go_wp2_with fail
      go_ret
      exact ⟨ret_b (by simp; omega), rfl⟩
  · go_enter Try.func23, Try.ntmps23
    go_wp2_with fail
    go_ret
    exact ⟨ret_b (by simp; omega), rfl⟩

set_option maxRecDepth 20000 in
theorem tdbehind_any (f : Int) (v : Value) (zs : List Int) (w : World) (hv : WsAt w v zs) : Calls Try.prog 15 #[.int .u64 f, v] w fun e w' => e = .returned (.int .u64 (behindU f zs)) ∧ w = w' := by
  obtain ⟨_, A, c, rfl, hc1, hc2, hrd⟩ := hv
  unfold maxLen at hc2
  by_cases h0 : zs.length = 0
  · have hb : behindU f zs = f := by rw [List.length_eq_zero_iff.1 h0]; rfl
    have HB := Lib.hid hb
    have h0i : (zs.length : Int) = 0 := by omega
    clear hb hrd
    go_enter Try.func15, Try.ntmps15
    go_wp2_with fail
    go_ret
    rw [HB.out]; exact ⟨rfl, rfl⟩
  · obtain ⟨b, o, rfl, hcl⟩ := hrd (by omega)
    have hlast : zs.getLast? = some (zs[zs.length - 1]'(by omega)) := by rw [List.getLast?_eq_getElem?, List.getElem?_eq_getElem (by omega)]
    have hb : behindU f zs = (zs[zs.length - 1]'(by omega) + 1) % 18446744073709551616 := by unfold behindU; rw [hlast]
    have c0 := hcl (zs.length - 1) (.int .u64 (zs[zs.length - 1]'(by omega))) (by rw [List.getElem?_map, List.getElem?_eq_getElem (by omega)]; rfl)
    generalize zs[zs.length - 1]'(by omega) = z at *
    have HB := Lib.hid hb
    have h0i : ¬ (zs.length : Int) = 0 := by omega
    have hn : (zs.length : Int) - 1 = ((zs.length - 1 : Nat) : Int) := by omega
    clear hb hcl hlast hrd
    go_enter Try.func15, Try.ntmps15
    go_wp2_with fail
    go_ret
    rw [HB.out]; exact ⟨rfl, rfl⟩
end Go.Proofs.Ytdbcmjambajffaa
