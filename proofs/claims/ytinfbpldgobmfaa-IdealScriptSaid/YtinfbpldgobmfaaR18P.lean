/-
  Chapter 18's own answer: at.
-/
import Derived.Test.YtinfbpldgobmfaaR18W
import Derived.Test.YtinfbpldgobmfaaIdB
namespace Go.Proofs.Ytinfbpldgobmfaa
open Go.RowKit
set_option linter.unusedSimpArgs false
set_option linter.unusedVariables false

def setP (w : World) (g : Nat) (x y z : Value) : World := ((w.setCell ⟨g, 0, none⟩ x).setCell ⟨g, 1, none⟩ y).setCell ⟨g, 2, none⟩ z
theorem openP {w : World} {Fr : HL} {g : Nat} {x y z : Value} (h : Holds w ((g, .cells #[x, y, z] 79) :: Fr)) :
    w.cell? ⟨g, 0, none⟩ = some x ∧ w.cell? ⟨g, 1, none⟩ = some y ∧ w.cell? ⟨g, 2, none⟩ = some z ∧ w.frozen? ⟨g, 0, none⟩ = false ∧ w.frozen? ⟨g, 1, none⟩ = false ∧ w.frozen? ⟨g, 2, none⟩ = false ∧
      ∀ x' y' z' : Value, Holds (setP w g x' y' z') ((g, .cells #[x', y', z'] 79) :: Fr) :=
  ⟨h.hcell 0, h.hcell 1, h.hcell 2, h.hfrozen 0, h.hfrozen 1, h.hfrozen 2, fun x' y' z' => ((h.set' 0 x').set' 1 y').set' 2 z'⟩
theorem Grew.setP {a w : World} (h : Grew a w) (g : Nat) (x y z : Value) : Grew a (setP w g x y z) := ((h.setCell _ _).setCell _ _).setCell _ _
def PV.agg (p : PV) (lv : Value) : Value := .agg #[.int .u64 p.a, .bool p.n, lv]
/-- returned a place -/
def RetP (p : PV) (w : World) (Hp F : HL) (e : Ending) (w' : World) : Prop := ∃ lv, e = .returned (p.agg lv) ∧ FrCans Hp lv p.l ∧ Holds w' F ∧ Grew w w'
def AtTo (P : List PV) (a : Int) (w : World) (i : Value) (wr : World) : Prop := ∃ k q : Nat, i = .int .i64 k ∧ k ≤ P.length ∧ (∀ p ∈ P.take k, p.a ≠ a) ∧ wr = w.drewN q
theorem atP_here {P : List PV} {a : Int} {k : Nat} (h : k < P.length) (h1 : ∀ p ∈ P.take k, p.a ≠ a) (h2 : P[k].a = a) : atP P a = P[k] := by
  unfold atP
  have h3 : P.find? (fun p => p.a == a) = some P[k] := by
    rw [List.find?_eq_some_iff_getElem]
    refine ⟨by simpa using h2, k, h, rfl, fun j hj => ?_⟩
    have := h1 P[j] (List.mem_take_iff_getElem.2 ⟨j, by omega, rfl⟩)
    simpa using this
  rw [h3]
  rfl
theorem atP_none {P : List PV} {a : Int} (h1 : ∀ p ∈ P, p.a ≠ a) : atP P a = ⟨a, true, []⟩ := by
  unfold atP
  rw [List.find?_eq_none.2 fun p hp => by simpa using h1 p hp]
  rfl
set_option maxRecDepth 20000 in
set_option maxHeartbeats 2000000 in
theorem r18at_any (b : Nat) (size : Int) (pv : Value) (P : List PV) (a : Int) (Hp Fr : HL) (w : World) (hl : FrPlaces Hp pv P) (hH : Holds w ((b, .cells #[.int .i64 size, pv] 76) :: (Hp ++ Fr))) :
    Calls Try.prog 58 #[.pointer (some ⟨b, 0, none⟩), .int .u64 a] w (RetP (atP P a) w Hp ((b, .cells #[.int .i64 size, pv] 76) :: (Hp ++ Fr))) := by
  obtain ⟨E, hE, hE2⟩ := hl
  have HCE := Lib.hid hE2
  have HLE : Hid (E.map (·.2) = P) := Lib.hid hE
  have hlen : E.length = P.length := by rw [← hE, List.length_map]
  obtain ⟨A, c, hlv, hnc, hcm⟩ := hE2.1.val hH.tail
  rw [hlen] at hlv hnc
  subst hlv
  unfold maxLen at hcm
  have hH1 := hH.alloc (.cells #[.int .u64 0, .bool false, .slice none 0 0] 79)
  have hg1 := (Grew.refl w).alloc (.cells #[.int .u64 0, .bool false, .slice none 0 0] 79)
  have HH1 := Lib.hid hH1
  have p1 := hH1.tail.hcell 1
  have HOP := Lib.hid (fun (q : Nat) => openP (hH1.drewN q))
  clear hE hE2 hH hH1
  go_enter Try.func58, Try.ntmps58
  go_wp2_with fail
  generalize w.alloc (.cells #[.int .u64 0, .bool false, .slice none 0 0] 79) = w0 at *
  generalize w.heap.size = g at *
  go_loopw [5] (fun i wr => AtTo P a w0 i wr) (fun i _ => P.length - (intOf i).toNat)
  case atStart => exact ⟨0, 0, rfl, by omega, by simp, rfl⟩
  case round =>
    obtain ⟨k, q, rfl, hk, hnm, rfl⟩ := hrel
    have HNM := Lib.hid hnm
    clear hnm
    obtain ⟨o0, o1, o2, f0, f1, f2, hset⟩ := HOP.out q
    have HSET := Lib.hid hset
    clear hset
    by_cases hlt : k < P.length
    · have hkE : k < E.length := by omega
      obtain ⟨b1, o, c', hv, hc1, hc2, hcl⟩ := HCE.out.get HH1.out.tail.tail k hkE
      rw [hlen] at hv
      injection hv with e1 e2 e3
      subst e1 e3
      obtain ⟨c0, c1, c2⟩ := hcl w0 _ HH1.out.tail.tail
      have hLk : E[k].2 = P[k] := by
        have : (E.map (·.2))[k]'(by simpa using hkE) = P[k] := by simp only [HLE.out]
        simpa using this
      have hfb := HCE.out.2 E[k] (List.getElem_mem hkE)
      rw [hLk] at hfb c0 c1
      have HFB := Lib.hid hfb
      obtain ⟨Ax, cx, hxv, _, _⟩ := hfb.sl HH1.out.tail.tail
      rw [hxv] at c2 HFB
      have HT := Lib.hid (List.take_succ_eq_append_getElem hlt)
      have HAT := Lib.hid (atP_here hlt HNM.out)
      clear hcl hfb hxv hLk
      generalize P[k] = xz at *
      obtain ⟨x, n, l⟩ := xz
      dsimp only at c0 c1 c2 HFB HAT
      by_cases hx : x = a
      · have HR := Lib.hid (HAT.out hx)
        have ex : (x == a) = true := by simpa using hx
        clear HAT
        subst hx
        go_wp2_with fail
        refine ⟨rfl, _, (by rw [results_cell1 rfl]; go_simp; rfl), ?_⟩
        rw [HR.out]
        exact ⟨_, rfl, HFB.out, (HSET.out _ _ _).tail, (hg1.drewN q).setP g _ _ _⟩
      · have HX := Lib.hid hx
        have ex : (x == a) = false := by simpa using hx
        go_wp2_with fail
        go_roundw
        case rel =>
          refine ⟨k + 1, q, by go_num, by omega, fun p hp => ?_, rfl⟩
          rw [HT.out] at hp
          rcases List.mem_append.1 hp with hp | hp
          · exact HNM.out p hp
          · rw [List.mem_singleton.1 hp]; exact HX.out
        case measure => simp [intOf]; omega
    · have hk2 : k = P.length := by omega
      have HR := Lib.hid (atP_none (P := P) (a := a) (by have h := HNM.out; rw [hk2, List.take_length] at h; exact h))
      subst hk2
      clear HNM
      go_wp2_with fail
      refine ⟨rfl, _, (by rw [results_cell1 rfl]; go_simp; rfl), ?_⟩
      rw [HR.out]
      exact ⟨_, rfl, FrCans.nil _, (HSET.out _ _ _).tail, (hg1.drewN q).setP g _ _ _⟩
end Go.Proofs.Ytinfbpldgobmfaa
