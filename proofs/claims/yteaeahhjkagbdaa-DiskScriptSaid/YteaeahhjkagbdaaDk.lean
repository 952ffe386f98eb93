/-
  Package disk: the model, what its memory is, and the quiet calls.
-/
import Derived.Test.YteaeahhjkagbdaaErr
namespace Go.Proofs.Yteaeahhjkagbdaa
open Go.RowKit
set_option linter.unusedSimpArgs false
set_option linter.unusedVariables false

structure DM where
  size : Nat
  firm : List (List UInt8)
  broken : List Bool
  waits : List (Nat × List UInt8)
def DM.ok (d : DM) : Prop := d.broken.length = d.firm.length ∧ (∀ x ∈ d.waits, x.1 < d.firm.length) ∧ (∀ b ∈ d.firm, b.length ≤ 1000000) ∧ (∀ x ∈ d.waits, x.2.length ≤ 1000000) ∧ d.firm.length ≤ 1000000 ∧ d.size ≤ 1000000
/-- what is wrong with a sector -/
def DM.why (d : DM) (at_ : Int) (good : Bool) : Int :=
  if at_ < 0 ∨ (d.firm.length : Int) ≤ at_ ∨ good = false then 2 else if d.broken.getD at_.toNat false then 5 else 0
def DM.last (d : DM) (i : Nat) : List UInt8 := d.waits.foldl (fun b x => if x.1 = i then x.2 else b) (d.firm.getD i [])
def DM.write (d : DM) (at_ : Int) (b : List UInt8) : DM := if d.why at_ (decide (b.length = d.size)) = 0 then { d with waits := d.waits ++ [(at_.toNat, b)] } else d
def DM.read (d : DM) (at_ : Int) : List UInt8 := if d.why at_ true = 0 then d.last at_.toNat else []
def DM.firmAt (d : DM) (at_ : Int) : List UInt8 := if d.why at_ true = 0 then d.firm.getD at_.toNat [] else []
def keepB (keep : List Bool) (i : Nat) : Bool := decide (0 < keep.length) && keep.getD (i % keep.length) false
/-- behind the first k writes of a crash: the sectors, how many lasted -/
def DM.crashTo (d : DM) (keep : List Bool) : Nat → List (List UInt8) × Nat
  | 0 => (d.firm, 0)
  | k + 1 => if keepB keep k then ((d.crashTo keep k).1.set (d.waits.getD k (0, [])).1 (d.waits.getD k (0, [])).2, (d.crashTo keep k).2 + 1) else d.crashTo keep k
def DM.crash (d : DM) (keep : List Bool) : DM := { d with firm := (d.crashTo keep d.waits.length).1, waits := [] }
def DM.crashN (d : DM) (keep : List Bool) : Nat := (d.crashTo keep d.waits.length).2
def DM.new (n z : Nat) (broken : List Int) : DM := ⟨z, List.replicate n (List.replicate z 0), (List.range n).map (fun i : Nat => broken.contains (i : Int)), []⟩

/-- what lies in memory: values, and their bytes -/
def IsDisk (v : Value) (d : DM) (H : HL) : Prop :=
  ∃ (b : Nat) (fv bv wv : Value) (fs : List (Value × List UInt8)) (ws : List (Nat × Value × List UInt8)) (Hf Hb Hw Hp : HL),
    v = .pointer (some ⟨b, 0, none⟩) ∧ d.ok ∧ IsRow 31 1 fv fs.length (fs.map (·.1)) Hf ∧ IsRow 4 1 bv d.broken.length (d.broken.map Value.bool) Hb ∧
    IsRow 116 2 wv ws.length ((ws.map fun x => [Value.int .i64 (x.1 : Int), x.2.1]).flatten) Hw ∧ d.firm = fs.map (·.2) ∧ d.waits = ws.map (fun x => (x.1, x.2.2)) ∧
    (∀ x ∈ fs, FrBytes Hp x.1 x.2) ∧ (∀ x ∈ ws, FrBytes Hp x.2.1 x.2.2) ∧
    H = (b, .cells #[.int .i64 (d.size : Int), fv, bv, wv] 113) :: (Hf ++ (Hb ++ (Hw ++ Hp)))

theorem IsDisk.ptr {v : Value} {d : DM} {H : HL} (h : IsDisk v d H) : ∃ b, v = .pointer (some ⟨b, 0, none⟩) := by
  obtain ⟨b, _, _, _, _, _, _, _, _, _, h, _⟩ := h; exact ⟨b, h⟩

/-- disk.wrong -/
theorem dwrong_any (c : Int) (w : World) (Fr : HL) (hc : c ≠ 0) (hH : Holds w Fr) : Calls Try.prog 71 #[.int .i64 c] w (RetErr c w Fr) := by
  have hc' := Lib.hid hc; clear hc
  go_enter Try.func71, Try.ntmps71
  go_wp2
  go_ret
  exact ⟨_, _, rfl, .inr ⟨hc'.out, w.heap.size, _, rfl, rfl⟩, hH.alloc _, (Grew.refl w).alloc _⟩

section
variable {v : Value} {d : DM} {H Fr : HL} {w : World}

/-- what is read of a disk -/
theorem IsDisk.view (h : IsDisk v d H) : ∃ (b : Nat) (Af Ab Aw : Option Addr) (cf cb cw : Nat) (fs : List (Value × List UInt8)) (ws : List (Nat × Value × List UInt8)),
    v = .pointer (some ⟨b, 0, none⟩) ∧ d.ok ∧ d.firm = fs.map (·.2) ∧ d.waits = ws.map (fun x => (x.1, x.2.2)) ∧ d.firm.length = fs.length ∧ d.broken.length = fs.length ∧ fs.length ≤ maxLen ∧ ws.length ≤ maxLen ∧
    ∀ (w : World) (Fr : HL), Holds w (H ++ Fr) → w.cell? ⟨b, 0, none⟩ = some (.int .i64 (d.size : Int)) ∧ w.cell? ⟨b, 1, none⟩ = some (.slice Af fs.length cf) ∧ w.cell? ⟨b, 2, none⟩ = some (.slice Ab fs.length cb) ∧
      w.cell? ⟨b, 3, none⟩ = some (.slice Aw ws.length cw) ∧ ReadsAt w 1 (.slice Af fs.length cf) fs.length (fs.map (·.1)) ∧ ReadsAt w 1 (.slice Ab fs.length cb) fs.length (d.broken.map Value.bool) ∧
      ReadsAt w 2 (.slice Aw ws.length cw) ws.length ((ws.map fun x => [Value.int .i64 (x.1 : Int), x.2.1]).flatten) ∧ (∀ x ∈ fs, BytesAt w x.1 x.2) ∧ (∀ x ∈ ws, BytesAt w x.2.1 x.2.2) := by
  obtain ⟨b, fv, bv, wv, fs, ws, Hf, Hb, Hw, Hp, rfl, hok, hrf, hrb, hrw, hf, hw, hpf, hpw, rfl⟩ := h
  obtain ⟨Af, cf, rfl⟩ := hrf.val
  obtain ⟨Ab, cb, rfl⟩ := hrb.val
  obtain ⟨Aw, cw, rfl⟩ := hrw.val
  have hlen : d.firm.length = fs.length := by rw [hf]; simp
  have hob : d.broken.length = fs.length := by rw [← hlen]; exact hok.1
  rw [hob] at hrb
  refine ⟨b, Af, Ab, Aw, cf, cb, cw, fs, ws, rfl, hok, hf, hw, hlen, hob, hrf.le, hrw.le, fun w Fr hH => ?_⟩
  rw [hob] at hH
  have h1 : Holds w (Hf ++ (Hb ++ (Hw ++ (Hp ++ Fr)))) := by
    have : Holds w ((Hf ++ (Hb ++ (Hw ++ Hp))) ++ Fr) := Holds.right (A := [_]) hH
    simpa only [List.append_assoc] using this
  exact ⟨hH.hcell 0, hH.hcell 1, hH.hcell 2, hH.hcell 3, hrf.reads h1, hrb.reads h1.right, hrw.reads h1.right.right, fun x hx => hpf x hx w h1.right.right.right.left, fun x hx => hpw x hx w h1.right.right.right.left⟩

set_option maxRecDepth 20000 in
theorem dasked_any (at_ : Int) (good : Bool) (h : IsDisk v d H) (hH : Holds w (H ++ Fr)) :
    Calls Try.prog 68 #[v, .int .i64 at_, .bool good] w (RetErr (d.why at_ good) w (H ++ Fr)) := by
  obtain ⟨b, Af, Ab, Aw, cf, cb, cw, fs, ws, rfl, hok, hf, hw, hlen, hob, hn1, hn2, hview⟩ := h.view
  obtain ⟨c0, c1, c2, c3, _, rb, _⟩ := hview w Fr hH
  obtain ⟨_, A', c', hv, _, _, hrd⟩ := rb
  injection hv with hv1 _ hv3
  subst hv1 hv3
  unfold maxLen at hn1 hn2
  generalize H ++ Fr = F at *
  have W2 := Lib.hid (fun (w : World) hx => dwrong_any 2 w F (by omega) hx)
  have W5 := Lib.hid (fun (w : World) hx => dwrong_any 5 w F (by omega) hx)
  have HH := Lib.hid hH; clear hH
  unfold DM.why
  rw [hlen]
  have hob' := Lib.hid hob
  clear hf hw hok hlen c0 c3 hview h hob
  by_cases h1 : at_ < 0 ∨ (fs.length : Int) ≤ at_ ∨ good = false
  · rw [if_pos h1]
    have h2 : at_ < 0 ∨ (¬ at_ < 0 ∧ (fs.length : Int) ≤ at_) ∨ (¬ at_ < 0 ∧ ¬ (fs.length : Int) ≤ at_ ∧ good = false) := by
      by_cases ha : at_ < 0
      · exact .inl ha
      · by_cases hb : (fs.length : Int) ≤ at_
        · exact .inr (.inl ⟨ha, hb⟩)
        · exact .inr (.inr ⟨ha, hb, by rcases h1 with h | h | h; exact absurd h ha; exact absurd h hb; exact h⟩)
    clear h1
    rcases h2 with h2 | ⟨h2, h3⟩ | ⟨h2, h3, rfl⟩
    all_goals
      go_enter Try.func68, Try.ntmps68
      go_wp2_with fail
      refine (W2.out _ HH.out).mono ?_
      rintro e w1 ⟨v1, H1, rfl, he, hH1, hg1⟩
      have HE := Lib.hid he; clear he
      go_wp2_with fail
      go_ret
      exact ⟨_, H1, rfl, HE.out, hH1, hg1⟩
  · rw [if_neg h1]
    obtain ⟨k, rfl⟩ := Int.eq_ofNat_of_zero_le (show 0 ≤ at_ by omega)
    have hk : k < fs.length := by omega
    have hg : good = true := by cases good; exact absurd (.inr (.inr rfl)) h1; rfl
    subst hg
    clear h1
    rw [Int.toNat_natCast]
    have hkb : k < d.broken.length := by rw [hob'.out]; exact hk
    obtain ⟨b2, o2, rfl, hcell⟩ := hrd (by omega)
    have ck := hcell k (.bool (d.broken.getD k false)) (by simp [hkb, List.getD])
    clear hcell hrd
    cases hb : d.broken.getD k false
    all_goals
      rw [hb] at ck
      clear hb
    · go_enter Try.func68, Try.ntmps68
      go_wp2_with fail
      go_ret
      exact ⟨_, [], rfl, IsErr.none, HH.out, Grew.refl w⟩
    · go_enter Try.func68, Try.ntmps68
      go_wp2_with fail
      refine (W5.out _ HH.out).mono ?_
      rintro e w1 ⟨v1, H1, rfl, he, hH1, hg1⟩
      have HE := Lib.hid he; clear he
      go_wp2_with fail
      go_ret
      exact ⟨_, H1, rfl, HE.out, hH1, hg1⟩
theorem dasked_nil (at_ : Int) (good : Bool) (hH : Holds w Fr) :
    Calls Try.prog 68 #[.pointer none, .int .i64 at_, .bool good] w (RetErr 1 w Fr) := by
  have W1 := Lib.hid (fun (w : World) hx => dwrong_any 1 w Fr (by omega) hx)
  have HH := Lib.hid hH; clear hH
  go_enter Try.func68, Try.ntmps68
  go_wp2_with fail
  refine (W1.out _ HH.out).mono ?_
  rintro e w1 ⟨v1, H1, rfl, he, hH1, hg1⟩
  have HE := Lib.hid he; clear he
  go_wp2_with fail
  go_ret
  exact ⟨_, H1, rfl, HE.out, hH1, hg1⟩
end
end Go.Proofs.Yteaeahhjkagbdaa
