/-
  Chapter 22: Over, Behind, and the laws' own helpers on uint64s.
-/
import Derived.Test.YtinfbpldgobmfaaSrt
import Derived.Test.YtinfbpldgobmfaaBase
import Derived.Deep.DeepCutAuto
namespace Go.Proofs.Ytinfbpldgobmfaa
open Go.RowKit
set_option linter.unusedSimpArgs false
set_option linter.unusedVariables false

theorem tWs : SlT Try.prog 25 26 1 8 (.int .u64 0) := SlT.mk' (by kernel_rfl) (by kernel_rfl) (by rfl) (by decide)
def SameTo64 (xs ys : List Int) (w : World) (v : Value) (wr : World) : Prop := ∃ k m : Nat, k ≤ xs.length ∧ v = .int .i64 k ∧ xs.take k = ys.take k ∧ wr = w.drewN m
set_option maxHeartbeats 400000 in
theorem same64_any (va vb : Value) (xs ys : List Int) (w : World) (ha : WsAt w va xs) (hb : WsAt w vb ys) :
    Calls Try.prog 13 #[va, vb] w (RetQ w (.bool (decide (xs = ys)))) := by
  have hna := ReadsAt.le ha
  have hnb := ReadsAt.le hb
  unfold maxLen at hna hnb
  obtain ⟨_, A, ca, rfl, _, _, ha⟩ := ha
  obtain ⟨_, B, cb, rfl, _, _, hb⟩ := hb
  have Ha := Lib.hid ha
  have Hb := Lib.hid hb
  clear ha hb
  by_cases hl : xs.length = ys.length
  · have hl0 : ((xs.length : Int) != (ys.length : Int)) = false := by rw [hl]; simp
    have hl1 : (xs.length != ys.length) = false := by rw [hl]; simp
    have HL := Lib.hid hl
    clear hl
    go_enter Try.func13, Try.ntmps13
    go_wp2
    go_loopw [5] (fun v wr => SameTo64 xs ys w v wr) (fun v _ => xs.length - (intOf v).toNat)
    case atStart => exact ⟨0, 0, by omega, rfl, by simp, rfl⟩
    case round =>
      obtain ⟨k, m, hk, rfl, hrel, rfl⟩ := hrel
      have HR := Lib.hid hrel; clear hrel
      by_cases hlt : k < xs.length
      · have hlt2 : k < ys.length := by have := HL.out; omega
        obtain ⟨b1, o1, rfl, h1⟩ := Ha.out (by omega)
        obtain ⟨b2, o2, rfl, h2⟩ := Hb.out (by omega)
        have c1 : w.cell? ⟨b1, o1 + k, none⟩ = some (.int .u64 xs[k]) := h1 k _ (by simp [hlt])
        have c2 : w.cell? ⟨b2, o2 + k, none⟩ = some (.int .u64 ys[k]) := h2 k _ (by simp [hlt2])
        clear h1 h2
        by_cases hx : xs[k] = ys[k]
        · have e1 : (xs[k] != ys[k]) = false := by rw [hx]; simp
          have HX := Lib.hid hx; clear hx
          go_wp2
          go_quiet (fail)
          go_wp2
          go_roundw
          case rel => exact ⟨k + 1, m + nq, by omega, by go_num, by rw [List.take_succ_eq_append_getElem hlt, List.take_succ_eq_append_getElem hlt2, HR.out, HX.out], rfl⟩
          case measure => simp [intOf]; omega
        · have e1 : (xs[k] != ys[k]) = true := by simpa using hx
          have HX := Lib.hid hx; clear hx
          go_wp2
          go_quiet (fail)
          go_wp2
          go_ret
          exact ⟨ret_b (b := false) (decide_eq_false fun e => by subst e; exact HX.out rfl).symm, m + nq, drewN2 _ _ _⟩
      · go_wp2
        go_ret
        have h1 := HR.out
        have := HL.out
        rw [List.take_of_length_le (by omega), List.take_of_length_le (by omega)] at h1
        exact ⟨ret_b (b := true) (decide_eq_true h1).symm, m, rfl⟩
  · have hl0 : ((xs.length : Int) != (ys.length : Int)) = true := by simp; omega
    have hl1 : (xs.length != ys.length) = true := by simpa using hl
    go_enter Try.func13, Try.ntmps13
    go_wp2
    go_ret
    exact ⟨ret_b (b := false) (decide_eq_false fun e => by subst e; exact hl rfl).symm, 0, rfl⟩

def OverTo64 (v : Value) (n : Nat) (w : World) (Fr : HL) (i : Value) (wr : World) : Prop :=
  ∃ (k : Nat) (ys : List Value) (H : HL), k ≤ n ∧ i = .int .i64 k ∧ IsRow 26 1 v n ys H ∧ (∀ y ∈ ys, y.oneCell' = true) ∧ Holds wr (H ++ Fr) ∧ Grew w wr
set_option maxHeartbeats 400000 in
theorem over64_any (v : Value) (xs : List Int) (H Fr : HL) (w : World) (hb : IsWs v xs H) (hH : Holds w (H ++ Fr)) (hsm : xs.length ≤ 1000000) :
    Calls Try.prog 28 #[v] w (RetFr (.tuple #[]) w Fr) := by
  have hb' : IsRow 26 1 v xs.length (xs.map (Value.int .u64)) H := hb
  have h1 : ∀ y ∈ xs.map (Value.int .u64), y.oneCell' = true := by intro y hy; obtain ⟨x, _, rfl⟩ := List.mem_map.1 hy; rfl
  clear hb
  generalize xs.length = n at hb' hsm
  generalize xs.map (Value.int .u64) = ys at hb' h1
  obtain ⟨A, c, rfl⟩ := hb'.val
  have HB := Lib.hid hb'; clear hb'
  have H1 := Lib.hid h1; clear h1
  go_enter Try.func28, Try.ntmps28
  go_wp2
  go_loopw [2] (fun i wr => OverTo64 (.slice A n c) n w Fr i wr) (fun i _ => n - (intOf i).toNat)
  case atStart => exact ⟨0, ys, H, by omega, rfl, HB.out, H1.out, hH, Grew.refl w⟩
  case round =>
    obtain ⟨k, zs, H2, hk, rfl, hz, hz1, hH2, hg⟩ := hrel
    have HZ := Lib.hid hz; clear hz
    have HZ1 := Lib.hid hz1; clear hz1
    by_cases hlt : k < n
    · have hlz : zs.length = n := by have := HZ.out.1; simpa using this
      obtain ⟨g, cap, hv, hnc, hcm, hgl, hcell, hfro, hset⟩ := HZ.out.cell hH2 (j := k) (by omega)
      have HS := Lib.hid hset; clear hset
      injection hv with hv1 hv2 hv3
      subst hv1; subst hv3
      generalize zs[k] = z0 at hcell
      clear hlz hv2
      go_wp2
      obtain ⟨H3, hr, hh⟩ := HS.out wr Fr hH2 (.int .u64 999)
      refine ⟨⟨k + 1, _, H3, by omega, by go_num, hr, ?_, hh, hg.setCell _ _⟩, by simp [intOf]; omega⟩
      intro y hy
      rcases List.mem_or_eq_of_mem_set hy with h | rfl
      · exact HZ1.out y h
      · rfl
    · go_wp2_with (at_builtin; refine wpList_append_T tWs (by rfl) (.tmp 12) (.tmp 13) (by rfl) (by rfl) (by rfl) HZ.out (hH2.alloc' _) ReadsAt.one (by simp [Value.oneCell']) (by simp [maxLen]; omega) (by omega) ?_; intro A' c' w' H' hrow hH3 hg2)
      go_end0
      exact ⟨rfl, hH3.right, (hg.alloc _).trans hg2⟩

/-- is more dirty than so many of a hundred? -/
def fineB (n : Int) : Bool := decide (0 ≤ n ∧ n ≤ 1073741824)
def overB (d l p : Int) : Bool := decide ((0 ≤ d ∧ d ≤ 1073741824) ∧ (0 ≤ l ∧ l ≤ 1073741824) ∧ (0 ≤ p ∧ p ≤ 1073741824) ∧ p * l < 100 * d)
def fineP (n : Int) : Prop := 0 ≤ n ∧ n ≤ 1073741824
def OvTo (d l p : Int) (wA : World) (iv : Value) (wr : World) : Prop := ∃ j : Nat, j ≤ 3 ∧ iv = .int .i64 j ∧ wr = wA ∧ (1 ≤ j → fineP d) ∧ (2 ≤ j → fineP l) ∧ (3 ≤ j → fineP p)
theorem overB_no {d l p : Int} (h : ¬ (fineP d ∧ fineP l ∧ fineP p)) : overB d l p = false := by
  unfold overB; exact decide_eq_false fun ⟨h1, h2, h3, _⟩ => h ⟨h1, h2, h3⟩
end Go.Proofs.Ytinfbpldgobmfaa
