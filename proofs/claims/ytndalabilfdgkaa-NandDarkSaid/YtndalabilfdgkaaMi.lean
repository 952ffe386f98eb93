/-
  Package mishap: At, one, May; slices.IndexFunc and slices.Clone of mishaps.
-/
import Derived.Test.YtndalabilfdgkaaRep
import Derived.Deep.DeepCutAuto
namespace Go.Proofs.Ytndalabilfdgkaa
open Go.RowKit
set_option linter.unusedSimpArgs false
set_option linter.unusedVariables false

structure Mi where
  at_ : Int
  kind : Int
  bytes : Int
  fill : UInt8
def Mi.cells (m : Mi) : List Value := [.int .i64 m.at_, .int .i64 m.kind, .int .i64 m.bytes, cellB m.fill]
def Mi.agg (m : Mi) : Value := .agg #[.int .i64 m.at_, .int .i64 m.kind, .int .i64 m.bytes, cellB m.fill]
def Mi.zero : Mi := ⟨0, 0, 0, 0⟩
def MsAt (w : World) (v : Value) (ms : List Mi) : Prop := ReadsAt w 4 v ms.length (ms.map Mi.cells).flatten
def IsMs (v : Value) (ms : List Mi) (H : HL) : Prop := IsRow 47 4 v ms.length (ms.map Mi.cells).flatten H
theorem tMis : SlT Try.prog 52 47 4 32 (.agg #[.int .i64 0, .int .i64 0, .int .i64 0, .int .u8 0]) := SlT.mk' (by kernel_rfl) (by kernel_rfl) (by rfl) (by decide)

/-- the first mishap at operation n, from number k on -/
def idxFrom (n : Int) : List Mi → Int → Int
  | [], _ => -1
  | m :: ms, k => if m.at_ = n then k else idxFrom n ms (k + 1)
def FrMs (Fr : HL) (v : Value) (ms : List Mi) : Prop := ∀ w, Holds w Fr → MsAt w v ms
set_option maxRecDepth 20000 in
theorem atF_any (n : Int) (m : Mi) (b : Nat) (w : World) (Fr : HL) (hH : Holds w Fr) (hb : (b, Obj.cells #[.int .i64 n] 3) ∈ Fr) :
    Calls Try.prog 43 #[.agg #[.int .i64 m.at_, .int .i64 m.kind, .int .i64 m.bytes, cellB m.fill], .pointer (some ⟨b, 0, none⟩)] w (RetFr (.bool (m.at_ == n)) w Fr) := by
  have hHA := hH.alloc (.cells #[.int .i64 m.at_, .int .i64 m.kind, .int .i64 m.bytes, cellB m.fill] 47)
  have z0 := hHA.hcell 0
  have z1 := hHA.cell (List.mem_cons_of_mem _ hb) 0
  simp only [List.getElem?_toArray, List.getElem?_cons_zero, List.getElem?_cons_succ] at z0 z1
  go_enter Try.func43, Try.ntmps43
  go_wp2_with fail
  go_ret
  exact ⟨rfl, hHA.tail, (Grew.refl w).alloc _⟩
/-- none of the first k -/
def IdxTo (n : Int) (ms : List Mi) (w : World) (Fr : HL) (iv : Value) (wr : World) : Prop :=
  ∃ k : Nat, k ≤ ms.length ∧ iv = .int .i64 k ∧ idxFrom n ms 0 = idxFrom n (ms.drop k) k ∧ Holds wr Fr ∧ Grew w wr

set_option maxRecDepth 20000 in
set_option maxHeartbeats 1000000 in
theorem index_any (n : Int) (v : Value) (ms : List Mi) (b : Nat) (w : World) (Fr : HL) (hv : FrMs Fr v ms) (hH : Holds w Fr) (hb : (b, Obj.cells #[.int .i64 n] 3) ∈ Fr) :
    Calls Try.prog 42 #[v, .func (Fn.func 43) #[] #[.pointer (some ⟨b, 0, none⟩)]] w (RetFr (.int .i64 (idxFrom n ms 0)) w Fr) := by
  have HV := Lib.hid hv
  obtain ⟨_, A, c, rfl, hc1, hc2, _⟩ := hv w hH
  unfold maxLen at hc2
  go_enter Try.func42, Try.ntmps42
  go_wp2_with fail
  go_loopw [5, 8] (fun _ iv wr => IdxTo n ms w Fr iv wr) (fun _ iv _ => ms.length - (intOf iv).toNat)
  case atStart => exact ⟨0, by omega, rfl, rfl, hH, Grew.refl w⟩
  case round =>
    obtain ⟨k, hk, rfl, hix, hHr, hgr⟩ := hrel
    by_cases hlt : k < ms.length
    · obtain ⟨_, A', c', hv', _, _, hrd⟩ := HV.out wr hHr
      injection hv' with hv1 _ hv3
      subst hv1 hv3
      obtain ⟨ba, oa, rfl, hwc⟩ := hrd (by omega)
      have hsz : ∀ z ∈ ms.map Mi.cells, z.length = 4 := by intro z hz; obtain ⟨a, _, rfl⟩ := List.mem_map.1 hz; rfl
      have hgi : (ms.map Mi.cells)[k]? = some (ms[k]).cells := by simp [hlt]
      have y0 := hwc (k * 4 + 0) (.int .i64 (ms[k]).at_) (by rw [flat_get _ hsz k 0 _ hgi (by omega)]; rfl)
      have y1 := hwc (k * 4 + 1) (.int .i64 (ms[k]).kind) (by rw [flat_get _ hsz k 1 _ hgi (by omega)]; rfl)
      have y2 := hwc (k * 4 + 2) (.int .i64 (ms[k]).bytes) (by rw [flat_get _ hsz k 2 _ hgi (by omega)]; rfl)
      have y3 := hwc (k * 4 + 3) (cellB (ms[k]).fill) (by rw [flat_get _ hsz k 3 _ hgi (by omega)]; rfl)
      rw [Nat.add_zero] at y0
      rw [← Nat.add_assoc] at y1 y2 y3
      have hdr : ms.drop k = ms[k] :: ms.drop (k + 1) := List.drop_eq_getElem_cons hlt
      rw [hdr] at hix
      clear hwc hrd hsz hgi hdr hH
      generalize ms[k] = m at *
      obtain ⟨ma, mk, mb, mf⟩ := m
      simp only at y0 y1 y2 y3 hix
      go_wp2_with fail
      refine (atF_any n ⟨ma, mk, mb, mf⟩ b wr Fr hHr hb).mono ?_
      rintro e w3 ⟨rfl, hH3, hg3⟩
      rw [idxFrom] at hix
      by_cases hm : ma = n
      · have e1 : (ma == n) = true := by simp [hm]
        rw [if_pos hm] at hix
        have HIX := Lib.hid hix
        clear hix hm y0 y1 y2 y3 hHr
        go_wp2_with fail
        go_ret
        exact ⟨by rw [HIX.out]; rfl, hH3, hgr.trans hg3⟩
      · have e1 : (ma == n) = false := by simpa using hm
        rw [if_neg hm] at hix
        have hfin : IdxTo n ms w Fr (.int .i64 ((k : Int) + 1)) w3 := ⟨k + 1, by omega, by go_num, by rw [hix]; norm_cast, hH3, hgr.trans hg3⟩
        have HFIN := Lib.hid hfin
        clear hix hm y0 y1 y2 y3 hHr hfin hH3 hg3
        go_wp2_with fail
        exact ⟨HFIN.out, by simp [intOf]; omega⟩
    · obtain rfl : k = ms.length := by omega
      rw [List.drop_length] at hix
      go_wp2_with fail
      go_ret
      exact ⟨by rw [hix]; rfl, hHr, hgr⟩

def miAt (n : Int) (ms : List Mi) : Option Mi := ms.find? fun m => decide (m.at_ = n)
theorem idx_find (n : Int) : ∀ (ms : List Mi) (k : Int), 0 ≤ k → (idxFrom n ms k = -1 ∧ miAt n ms = none) ∨ ∃ i : Nat, i < ms.length ∧ idxFrom n ms k = k + i ∧ miAt n ms = ms[i]?
  | [], k, _ => .inl ⟨rfl, rfl⟩
  | m :: ms, k, hk => by
    unfold idxFrom miAt
    rw [List.find?_cons]
    by_cases h : m.at_ = n
    · right; exact ⟨0, by simp, by simp [h], by simp [h]⟩
    · have ih := idx_find n ms (k + 1) (by omega)
      rw [if_neg h]
      simp only [h, decide_false]
      rcases ih with ⟨h1, h2⟩ | ⟨i, h1, h2, h3⟩
      · left; exact ⟨h1, h2⟩
      · right; exact ⟨i + 1, by simp; omega, by rw [h2]; push_cast; omega, by rw [List.getElem?_cons_succ]; exact h3⟩

set_option maxRecDepth 20000 in
set_option maxHeartbeats 1000000 in
theorem mat_any (n : Int) (v : Value) (ms : List Mi) (w : World) (Fr : HL) (hv : FrMs Fr v ms) (hH : Holds w Fr) :
    Calls Try.prog 39 #[.int .i64 n, v] w (RetFr (.tuple #[((miAt n ms).getD Mi.zero).agg, .bool (miAt n ms).isSome]) w Fr) := by
  have HV := Lib.hid hv
  obtain ⟨_, A, c, rfl, hc1, hc2, _⟩ := hv w hH
  unfold maxLen at hc2
  have hHA := (hH.alloc (.cells #[.int .i64 n] 3)).alloc (.cells #[.int .i64 0, .int .i64 0, .int .i64 0, .int .u8 0] 47)
  have hGA := ((Grew.refl w).alloc (.cells #[.int .i64 n] 3)).alloc (.cells #[.int .i64 0, .int .i64 0, .int .i64 0, .int .u8 0] 47)
  rw [World.size_alloc] at hHA
  go_enter Try.func39, Try.ntmps39
  go_wp2_with fail
  refine (index_any n (.slice A ms.length c) ms w.heap.size _ _ (fun wx hx => HV.out wx hx.tail.tail) hHA (by simp)).mono ?_
  rintro e w3 ⟨rfl, hH3, hg3⟩
  have hG3 := hGA.trans hg3
  generalize w.heap.size = t at *
  have z0 := hH3.hcell 0
  have z1 := hH3.hcell 1
  have z2 := hH3.hcell 2
  have z3 := hH3.hcell 3
  have f0 := hH3.hfrozen 0
  have f1 := hH3.hfrozen 1
  have f2 := hH3.hfrozen 2
  have f3 := hH3.hfrozen 3
  simp only [List.getElem?_toArray, List.getElem?_cons_zero, List.getElem?_cons_succ] at z0 z1 z2 z3
  have hres : Try.f39.results = #[ResultVar.cell 4 47, ResultVar.tmp 5] := by rfl
  rcases idx_find n ms 0 (by omega) with ⟨h1, h2⟩ | ⟨i, h1, h2, h3⟩
  · rw [h1]
    have H2 := Lib.hid h2
    clear h1 h2 hH hHA hGA
    go_wp2_with fail
    have hS := Holds.set (Holds.set (Holds.set (Holds.set hH3 0 (.int .i64 0)) 1 (.int .i64 0)) 2 (.int .i64 0)) 3 (.int .u8 0)
    have hGS := (((hG3.setCell ⟨t + 1, 0, none⟩ (.int .i64 0)).setCell ⟨t + 1, 1, none⟩ (.int .i64 0)).setCell ⟨t + 1, 2, none⟩ (.int .i64 0)).setCell ⟨t + 1, 3, none⟩ (.int .u8 0)
    generalize (((w3.setCell ⟨t + 1, 0, none⟩ (.int .i64 0)).setCell ⟨t + 1, 1, none⟩ (.int .i64 0)).setCell ⟨t + 1, 2, none⟩ (.int .i64 0)).setCell ⟨t + 1, 3, none⟩ (.int .u8 0) = wf at *
    have u0 := hS.hcell 0
    have u1 := hS.hcell 1
    have u2 := hS.hcell 2
    have u3 := hS.hcell 3
    simp only [List.setIfInBounds_toArray, List.set_cons_zero, List.set_cons_succ, List.getElem?_toArray, List.getElem?_cons_zero, List.getElem?_cons_succ] at u0 u1 u2 u3
    refine bodyPost_ret (v := .tuple #[.agg #[.int .i64 0, .int .i64 0, .int .i64 0, .int .u8 0], .bool false]) ?_ rfl ⟨by rw [H2.out]; rfl, hS.tail.tail, hGS⟩
    unfold results
    rw [hres]
    go_simp
  · rw [h2]
    obtain ⟨_, A', c', hv', _, _, hrd⟩ := HV.out w3 hH3.tail.tail
    injection hv' with hv1 _ hv3
    subst hv1 hv3
    obtain ⟨ba, oa, rfl, hwc⟩ := hrd (by omega)
    have hsz : ∀ z ∈ ms.map Mi.cells, z.length = 4 := by intro z hz; obtain ⟨a, _, rfl⟩ := List.mem_map.1 hz; rfl
    have hgi : (ms.map Mi.cells)[i]? = some (ms[i]).cells := by simp [h1]
    have y0 := hwc (i * 4 + 0) (.int .i64 (ms[i]).at_) (by rw [flat_get _ hsz i 0 _ hgi (by omega)]; rfl)
    have y1 := hwc (i * 4 + 1) (.int .i64 (ms[i]).kind) (by rw [flat_get _ hsz i 1 _ hgi (by omega)]; rfl)
    have y2 := hwc (i * 4 + 2) (.int .i64 (ms[i]).bytes) (by rw [flat_get _ hsz i 2 _ hgi (by omega)]; rfl)
    have y3 := hwc (i * 4 + 3) (cellB (ms[i]).fill) (by rw [flat_get _ hsz i 3 _ hgi (by omega)]; rfl)
    rw [Nat.add_zero] at y0
    rw [← Nat.add_assoc] at y1 y2 y3
    have hgm : ms[i]? = some ms[i] := List.getElem?_eq_getElem h1
    rw [hgm] at h3
    have H3 := Lib.hid h3
    clear hwc hrd hsz hgi hgm h2 h3 hH hHA hGA
    generalize ms[i] = m at *
    obtain ⟨ma, mk, mb, mf⟩ := m
    simp only at y0 y1 y2 y3
    have hi0 : ¬ ((0 : Int) + (i : Int) < 0) := by omega
    have hi1 : (0 : Int) + (i : Int) = (i : Int) := by omega
    rw [hi1]
    unfold cellB at y3
    go_wp2_with fail
    have hS := Holds.set (Holds.set (Holds.set (Holds.set hH3 0 (.int .i64 ma)) 1 (.int .i64 mk)) 2 (.int .i64 mb)) 3 (.int .u8 (mf.toNat : Int))
    have hGS := (((hG3.setCell ⟨t + 1, 0, none⟩ (.int .i64 ma)).setCell ⟨t + 1, 1, none⟩ (.int .i64 mk)).setCell ⟨t + 1, 2, none⟩ (.int .i64 mb)).setCell ⟨t + 1, 3, none⟩ (.int .u8 (mf.toNat : Int))
    generalize (((w3.setCell ⟨t + 1, 0, none⟩ (.int .i64 ma)).setCell ⟨t + 1, 1, none⟩ (.int .i64 mk)).setCell ⟨t + 1, 2, none⟩ (.int .i64 mb)).setCell ⟨t + 1, 3, none⟩ (.int .u8 (mf.toNat : Int)) = wf at *
    have u0 := hS.hcell 0
    have u1 := hS.hcell 1
    have u2 := hS.hcell 2
    have u3 := hS.hcell 3
    simp only [List.setIfInBounds_toArray, List.set_cons_zero, List.set_cons_succ, List.getElem?_toArray, List.getElem?_cons_zero, List.getElem?_cons_succ] at u0 u1 u2 u3
    refine bodyPost_ret (v := .tuple #[.agg #[.int .i64 ma, .int .i64 mk, .int .i64 mb, .int .u8 (mf.toNat : Int)], .bool true]) ?_ rfl ⟨by rw [H3.out]; rfl, hS.tail.tail, hGS⟩
    unfold results
    rw [hres]
    go_simp

section
variable {P : Program} {ops : Array Oper} {Q : Exit → Act → World → Prop} {md : Region.Mode} {S : World → Prop} {z : Nat}
/-- a guarded operation that does not run -/
theorem Z_skipD (i : Nat) (d : Option Nat) {oi : Oper} {fuel : Nat} {listed : Array Bool} {a : Act} {w : World} (hi : ops[i]? = some oi) (hdst : oi.dst = d) (hB : takeB md ops z listed i = true)
    (hQ : ∀ c a w, Q (.panic c) (a.put d undef) w → Q (.panic c) a w) (hw : Region.wanted oi (yielded ops a.tmps) = false) (hS : S w)
    (h : wpAnyZ P md ops Q S z fuel (listed.setIfInBounds i true) (a.put d undef) w) : wpAnyZ P md ops Q S z (fuel + 1) listed a w := by
  subst hdst
  exact Z_skip i hi hB hQ hw hS h
end
def Mi.ok (m : Mi) : Prop := 1 ≤ m.at_ ∧ m.at_ ≤ 1073741824 ∧ (m.kind = 1 ∨ m.kind = 2) ∧ 0 ≤ m.bytes ∧ m.bytes ≤ 65536
set_option maxRecDepth 20000 in
/-- a mishap that may be -/
theorem mone_yes (m : Mi) (w : World) (Fr : HL) (hH : Holds w Fr) (hm : m.ok) :
    Calls Try.prog 38 #[.agg #[.int .i64 m.at_, .int .i64 m.kind, .int .i64 m.bytes, cellB m.fill]] w (RetFr (.bool true) w Fr) := by
  obtain ⟨ma, mk, mb, mf⟩ := m
  obtain ⟨h1, h2, h3, h4, h5⟩ := hm
  simp only at h1 h2 h3 h4 h5 ⊢
  have hHA := hH.alloc (.cells #[.int .i64 ma, .int .i64 mk, .int .i64 mb, cellB mf] 47)
  rcases h3 with rfl | rfl
  all_goals
    go_enter Try.func38, Try.ntmps38
    go_wp2_with fail
    go_ret
    exact ⟨rfl, hHA.tail, (Grew.refl w).alloc _⟩
/-- no mishap, or one: they may be -/
theorem may_none (w : World) : Calls Try.prog 26 #[.slice none 0 0] w fun e w' => e = .returned (.bool true) ∧ w = w' := by
  go_enter Try.func26, Try.ntmps26
  go_wp2_with fail
  go_loopw [7] (fun iv wr => iv = .int .i64 0 ∧ wr = w) (fun _ _ => 0)
  case atStart => exact ⟨rfl, rfl⟩
  case round =>
    obtain ⟨rfl, rfl⟩ := hrel
    go_wp2_with fail
    go_ret
    exact ⟨rfl, rfl⟩
set_option maxRecDepth 20000 in
/-- slices.Clone of mishaps -/
theorem clonemi_any (v : Value) (bs : List Mi) (w : World) (Fr : HL) (hb : MsAt w v bs) (hH : Holds w Fr) (hsm : bs.length ≤ 1000000) :
    Calls Try.prog 27 #[v] w (RetNew (fun v H => IsMs v bs H) w Fr) := by
  have h1 : ∀ y ∈ (bs.map Mi.cells).flatten, y.oneCell' = true := by
    intro y hy
    obtain ⟨c, hc, hyc⟩ := List.mem_flatten.1 hy
    obtain ⟨x, _, rfl⟩ := List.mem_map.1 hc
    simp only [Mi.cells, List.mem_cons, List.not_mem_nil, or_false] at hyc
    rcases hyc with rfl | rfl | rfl | rfl <;> rfl
  have hb0 := hb
  obtain ⟨_, A, c, rfl, _, _, _⟩ := hb0
  have HB := Lib.hid hb
  have H1 := Lib.hid h1; clear h1
  cases A with
  | none =>
    obtain ⟨_, A, c', hv, hc1, hc2, h0⟩ := hb
    injection hv with hv1 hv2 hv3
    subst hv1 hv3
    have hz : bs.length = 0 := by
      rcases Nat.eq_zero_or_pos bs.length with h | h
      · exact h
      · obtain ⟨b, o, h, _⟩ := h0 h; cases h
    obtain rfl : bs = [] := List.eq_nil_of_length_eq_zero hz
    have k1 : ∀ w : World, (binOp .eql 52 (.slice none 0 c) (.slice none 0 0)).run Try.prog w = .ok (.bool true) w := fun w => Lib.run_eql_slice_nil w _ _ _ _ _ _ _ tMis.under
    clear h0 hz hc1
    go_enter Try.func27, Try.ntmps27
    go_wp2
    go_ret
    exact ⟨_, [], rfl, IsRow.nil _ _, hH, Grew.refl w⟩
  | some a =>
    have k1 : ∀ w : World, (binOp .eql 52 (.slice (some a) bs.length c) (.slice none 0 0)).run Try.prog w = .ok (.bool false) w := fun w => Lib.run_eql_slice_nil w _ _ _ _ _ _ _ tMis.under
    clear hb
    go_enter Try.func27, Try.ntmps27
    go_wp2_with (at_builtin; refine wpList_append_T tMis (by rfl) (.tmp 5) (.tmp 6) (by rfl) (by rfl) (by rfl) (IsRow.made0 (size := 4) (e := 47) w.heap.size 0 #[] (by rfl) (by simp [maxLen])) ((hH.alloc (.cells #[] 47))) (HB.out.alloc _) H1.out (by simp [maxLen]; omega) (by omega) ?_; intro A' c' w' H' hrow hH3 hg2)
    go_ret
    simp only [Nat.zero_add, List.nil_append] at hrow
    exact ⟨_, H', rfl, hrow, hH3, ((Grew.refl w).alloc _).trans hg2⟩

set_option maxRecDepth 20000 in
set_option maxHeartbeats 1000000 in
theorem may_one (v : Value) (m : Mi) (w : World) (Fr : HL) (hv : FrMs Fr v [m]) (hH : Holds w Fr) (hm : m.ok) :
    Calls Try.prog 26 #[v] w (RetFr (.bool true) w Fr) := by
  have HV := Lib.hid hv
  have hv0 := hv w hH
  obtain ⟨_, A, c, rfl, hc1, hc2, hrd⟩ := hv0
  simp only [List.length_singleton] at hc1 hrd ⊢
  have HM := Lib.hid hm
  obtain ⟨b, o, rfl, hcell⟩ := hrd (by omega)
  have y0 := hcell 0 (.int .i64 m.at_) rfl
  have y1 := hcell 1 (.int .i64 m.kind) rfl
  have y2 := hcell 2 (.int .i64 m.bytes) rfl
  have y3 := hcell 3 (.int .u8 (m.fill.toNat : Int)) rfl
  rw [Nat.add_zero] at y0
  have HHS := Lib.hid (hH.alloc (.cells #[.int .i64 m.at_, .int .i64 m.kind, .int .i64 m.bytes, .int .u8 (m.fill.toNat : Int)] 47))
  have HGS := Lib.hid ((Grew.refl w).alloc (.cells #[.int .i64 m.at_, .int .i64 m.kind, .int .i64 m.bytes, .int .u8 (m.fill.toNat : Int)] 47))
  clear hcell hv hm
  go_enter Try.func26, Try.ntmps26
  go_wp2_with fail
  go_loopw [3, 4, 7] (fun _ _ iv wr => (iv = .int .i64 0 ∧ wr = w) ∨ (iv = .int .i64 1 ∧ Holds wr Fr ∧ Grew w wr)) (fun _ _ iv _ => 1 - (intOf iv).toNat)
  case atStart => exact .inl ⟨rfl, rfl⟩
  case round =>
    rcases hrel with ⟨rfl, rfl⟩ | ⟨rfl, hHr, hgr⟩
    · go_upto_region 4 with fail
      have hHr := HHS.out
      have hgr := HGS.out
      have HS := Lib.hid (fun (wx : World) (HH : HL) (h : Holds wx HH) (hm : (wr.heap.size, Obj.cells #[.int .i64 m.at_, .int .i64 m.kind, .int .i64 m.bytes, .int .u8 (m.fill.toNat : Int)] 47) ∈ HH) =>
        show wx.cell? ⟨wr.heap.size, 0, none⟩ = some (.int .i64 m.at_) ∧ wx.cell? ⟨wr.heap.size, 1, none⟩ = some (.int .i64 m.kind) ∧ wx.cell? ⟨wr.heap.size, 2, none⟩ = some (.int .i64 m.bytes) ∧ wx.cell? ⟨wr.heap.size, 3, none⟩ = some (.int .u8 (m.fill.toNat : Int)) from ⟨h.cell hm 0, h.cell hm 1, h.cell hm 2, h.cell hm 3⟩)
      clear HHS HGS
      generalize wr.alloc (.cells #[.int .i64 m.at_, .int .i64 m.kind, .int .i64 m.bytes, .int .u8 (m.fill.toNat : Int)] 47) = wA at *
      generalize wr.heap.size = t at *
      refine Z_begin (fun wx => wx.cell? ⟨t, 0, none⟩ = some (.int .i64 m.at_) ∧ wx.cell? ⟨t, 1, none⟩ = some (.int .i64 m.kind) ∧ wx.cell? ⟨t, 2, none⟩ = some (.int .i64 m.bytes) ∧ wx.cell? ⟨t, 3, none⟩ = some (.int .u8 (m.fill.toNat : Int))) 18 (by kernel_rfl) (fun w1 hd => HS.out _ _ (hHr.dr hd) (by simp)) (fun w1 hd hs => ?_)
      have hH1 := hHr.dr hd; have hG1 := hgr.trans (Grew.dr hd); clear hd hHr hgr
      refine Z_takeD 0 (some 12) (v := ?_) rfl rfl (by kernel_rfl) (fun _ _ _ h => h) (by rfl) hs ?_ ?_
      rotate_left
      · intro wx hx; obtain ⟨x0, x1, x2, x3⟩ := hx; go_simp; try with_reducible rfl
      simp only [Act.put, List.setIfInBounds_toArray, List.set_cons_succ, List.set_cons_zero]
      refine Z_mid 1 rfl (by kernel_rfl) (fun K hK => ?_)
      have ⟨x0, x1, x2, x3⟩ := hs
      go_simp; refine (mone_yes m w1 _ hH1 HM.out).mono ?_; rintro e w4 ⟨rfl, hH4, hg4⟩   -- call w
      clear x0 x1 x2 x3
      refine hK _ _ (HS.out _ _ hH4 (by simp)) (fun hs2 => ?_); clear hK K hs; have hs := hs2; clear hs2
      refine Z_takeD 2 (some 14) (v := ?_) rfl rfl (by kernel_rfl) (fun _ _ _ h => h) (by rfl) hs ?_ ?_
      rotate_left
      · intro wx hx; obtain ⟨x0, x1, x2, x3⟩ := hx; go_simp; try with_reducible rfl
      simp only [Act.put, List.setIfInBounds_toArray, List.set_cons_succ, List.set_cons_zero]
      refine Z_takeD 3 (some 15) (v := ?_) rfl rfl (by kernel_rfl) (fun _ _ _ h => h) (by rfl) hs ?_ ?_
      rotate_left
      · intro wx hx; obtain ⟨x0, x1, x2, x3⟩ := hx; go_simp; try with_reducible rfl
      simp only [Act.put, List.setIfInBounds_toArray, List.set_cons_succ, List.set_cons_zero]
      refine Z_takeD 4 (some 16) (v := ?_) rfl rfl (by kernel_rfl) (fun _ _ _ h => h) (by rfl) hs ?_ ?_
      rotate_left
      · intro wx hx; obtain ⟨x0, x1, x2, x3⟩ := hx; go_simp; try with_reducible rfl
      simp only [Act.put, List.setIfInBounds_toArray, List.set_cons_succ, List.set_cons_zero]
      refine Z_takeD 5 (some 17) (v := ?_) rfl rfl (by kernel_rfl) (fun _ _ _ h => h) (by rfl) hs ?_ ?_
      rotate_left
      · intro wx hx; obtain ⟨x0, x1, x2, x3⟩ := hx; go_simp; try with_reducible rfl
      simp only [Act.put, List.setIfInBounds_toArray, List.set_cons_succ, List.set_cons_zero]
      refine Z_takeD 6 (some 18) (v := ?_) rfl rfl (by kernel_rfl) (fun _ _ _ h => h) (by rfl) hs ?_ ?_
      rotate_left
      · intro wx hx; obtain ⟨x0, x1, x2, x3⟩ := hx; go_simp; try with_reducible rfl
      simp only [Act.put, List.setIfInBounds_toArray, List.set_cons_succ, List.set_cons_zero]
      refine Z_skipD 7 (some 19) rfl rfl (by kernel_rfl) (fun _ _ _ h => h) (by rfl) hs ?_
      simp only [Act.put, List.setIfInBounds_toArray, List.set_cons_succ, List.set_cons_zero]
      refine Z_skipD 8 (some 20) rfl rfl (by kernel_rfl) (fun _ _ _ h => h) (by rfl) hs ?_
      simp only [Act.put, List.setIfInBounds_toArray, List.set_cons_succ, List.set_cons_zero]
      refine Z_skipD 9 (some 21) rfl rfl (by kernel_rfl) (fun _ _ _ h => h) (by rfl) hs ?_
      simp only [Act.put, List.setIfInBounds_toArray, List.set_cons_succ, List.set_cons_zero]
      refine Z_skipD 10 (some 22) rfl rfl (by kernel_rfl) (fun _ _ _ h => h) (by rfl) hs ?_
      simp only [Act.put, List.setIfInBounds_toArray, List.set_cons_succ, List.set_cons_zero]
      refine Z_skipD 11 (some 23) rfl rfl (by kernel_rfl) (fun _ _ _ h => h) (by rfl) hs ?_
      simp only [Act.put, List.setIfInBounds_toArray, List.set_cons_succ, List.set_cons_zero]
      refine Z_skipD 12 (some 24) rfl rfl (by kernel_rfl) (fun _ _ _ h => h) (by rfl) hs ?_
      simp only [Act.put, List.setIfInBounds_toArray, List.set_cons_succ, List.set_cons_zero]
      refine Z_skipD 13 (some 25) rfl rfl (by kernel_rfl) (fun _ _ _ h => h) (by rfl) hs ?_
      simp only [Act.put, List.setIfInBounds_toArray, List.set_cons_succ, List.set_cons_zero]
      refine Z_skipD 14 (some 26) rfl rfl (by kernel_rfl) (fun _ _ _ h => h) (by rfl) hs ?_
      simp only [Act.put, List.setIfInBounds_toArray, List.set_cons_succ, List.set_cons_zero]
      refine Z_skipD 15 (some 27) rfl rfl (by kernel_rfl) (fun _ _ _ h => h) (by rfl) hs ?_
      simp only [Act.put, List.setIfInBounds_toArray, List.set_cons_succ, List.set_cons_zero]
      refine Z_takeD 16 (some 28) (v := ?_) rfl rfl (by kernel_rfl) (fun _ _ _ h => h) (by rfl) hs ?_ ?_
      rotate_left
      · intro wx hx; obtain ⟨x0, x1, x2, x3⟩ := hx; go_simp; try with_reducible rfl
      simp only [Act.put, List.setIfInBounds_toArray, List.set_cons_succ, List.set_cons_zero]
      refine Z_takeD 17 (some 29) (v := ?_) rfl rfl (by kernel_rfl) (fun _ _ _ h => h) (by rfl) hs ?_ ?_
      rotate_left
      · intro wx hx; obtain ⟨x0, x1, x2, x3⟩ := hx; go_simp; try with_reducible rfl
      simp only [Act.put, List.setIfInBounds_toArray, List.set_cons_succ, List.set_cons_zero]
      refine Z_done (by kernel_rfl) ?_ _
      have hH5 := hH4.tail
      have hG5 := hG1.trans hg4
      clear hH4 hG1 hg4 hH1
      go_wp2_with fail
      exact ⟨.inr ⟨by go_num, hH5, hG5⟩, by simp [intOf]⟩
    · go_wp2_with fail
      go_ret
      exact ⟨rfl, hHr, hgr⟩
end Go.Proofs.Ytndalabilfdgkaa
