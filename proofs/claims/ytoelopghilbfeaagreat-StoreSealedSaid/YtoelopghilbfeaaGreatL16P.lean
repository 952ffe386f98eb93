/-
  Chapter 16, plain: what every program answers that is one.
-/
import Derived.Test.YtoelopghilbfeaaGreatStP
namespace Go.Proofs.YtoelopghilbfeaaGreat
open Go.RowKit
set_option linter.unusedSimpArgs false
set_option linter.unusedVariables false

def awC : CM := CM.new 16 4 128 [] []
def awS : SM := SM.fresh 16 4 128
def awH : Hd := ⟨1, 7, 1, 0⟩
def awD : List UInt8 := fillL 3 128
def awR : SM × CM × Int × Int := putA awS awC awH awD
set_option maxRecDepth 20000 in
theorem awR_code : awR.2.2 = (0, 0) := by kernel_rfl
set_option maxRecDepth 20000 in
theorem awR_geo : (awR.1.B, awR.1.P, awR.1.Z, awR.2.1.blocks.length, awR.2.1.P, awR.2.1.Z, awR.2.1.ops) = (16, 4, 128, 16, 4, 128, 1) := by kernel_rfl
def awG : CM × List UInt8 × Hd × Int := getS awR.1 awR.2.1 0
set_option maxRecDepth 20000 in
theorem awG_code : awG.2.2 = (awH, 0) := by kernel_rfl
set_option maxRecDepth 20000 in
theorem awG_data : awG.2.1 = awD := by kernel_rfl
set_option maxRecDepth 20000 in
theorem awG_ops : awG.1.ops = 2 := by kernel_rfl
set_option maxRecDepth 20000 in
theorem awG_63 : getS awR.1 awG.1 63 = (awG.1, [], Hd.zero, 8) := by
  have h : askedS awR.1 63 = (0, 0, 8) := by kernel_rfl
  unfold getS
  rw [h, if_pos (by decide)]
set_option maxRecDepth 20000 in
theorem awG_room : roomS awR.1 awG.1 = 63 := by kernel_rfl
theorem awN : newS awC = (awS, awC, 0) := newS_blank (c := CM.new 16 4 128 [] []) fun k => ⟨new_next 16 4 128 [] [] k, new_mark0 16 4 128 [] k⟩
theorem awD_len : awD.length = 128 := by unfold awD fillL; simp
theorem aw_facts : ∃ (s1 : SM) (c1 c2 : CM), putA awS awC awH awD = (s1, c1, 0, 0) ∧ c1.ops = 1 ∧ s1.B < 20 ∧ c1.blocks.length = s1.B ∧ getS s1 c1 0 = (c2, awD, awH, 0) ∧ c2.ops = 2 ∧ getS s1 c2 63 = (c2, [], Hd.zero, 8) ∧ roomS s1 c2 = 63 := by
  have h1 := awR_code
  have h2 := awR_geo
  have h3 := awG_code
  have h4 := awG_data
  have h5 := awG_ops
  have h6 := awG_63
  have h7 := awG_room
  have e1 : putA awS awC awH awD = awR := by delta awR; exact Eq.refl _
  have e2 : getS awR.1 awR.2.1 0 = awG := by delta awG; exact Eq.refl _
  generalize awR = R at *
  generalize awG = G at *
  generalize awD = D at *
  rw [e1]
  obtain ⟨R1, R2, R3⟩ := R
  obtain ⟨G1, G2, G3⟩ := G
  dsimp only at *
  subst h1 h3 h4
  simp only [Prod.mk.injEq] at h2
  obtain ⟨g1, g2, g3, g4, g5, g6, g7⟩ := h2
  exact ⟨R1, R2, G1, rfl, g7, by omega, by omega, e2, h5, h6, h7⟩
end Go.Proofs.YtoelopghilbfeaaGreat
