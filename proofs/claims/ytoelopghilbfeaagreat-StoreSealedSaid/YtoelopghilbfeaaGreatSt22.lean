/-
  Package store: Bad.
-/
import Derived.Test.YtoelopghilbfeaaGreatSt21
namespace Go.Proofs.YtoelopghilbfeaaGreat
open Go.RowKit
set_option linter.unusedSimpArgs false
set_option linter.unusedVariables false

variable {b cb g cap : Nat} {mv : Value} {c : CM} {s : SM} {H Hc Fr : HL} {w : World}
def badS (s : SM) (c : CM) : Int := (onlyI (fun k => !c.markOf k) (numsTo s.B)).length
set_option maxRecDepth 20000 in
set_option maxHeartbeats 2000000 in
theorem bad_any (h : StAt b cb s H) (hch : ChipAt cb g cap mv c Hc) (hH : Holds w (H ++ (Hc ++ Fr))) : Calls Tryz.prog 25 #[.pointer (some ⟨b, 0, none⟩)] w (RetFr (.int .i64 (badS s c)) w (H ++ (Hc ++ Fr))) := by
  have hpb := plan_bd h.plan
  have hH1 := hH.alloc (.cells #[.pointer (some ⟨b, 0, none⟩)] 28)
  have hg1 := (Grew.refl w).alloc (.cells #[.pointer (some ⟨b, 0, none⟩)] 28)
  have hH2 : Holds (w.alloc (.cells #[.pointer (some ⟨b, 0, none⟩)] 28)) (H ++ (Hc ++ ((w.heap.size, .cells #[.pointer (some ⟨b, 0, none⟩)] 28) :: Fr))) := hH1.sub (by (repeat' (first | refine sub_append ?_ ?_ | refine sub_cons ?_ ?_ | exact sub_nil)); all_goals first | (intro p hp; simp only [List.mem_append, List.mem_cons, hp, true_or, or_true]) | simp only [List.mem_append, List.mem_cons, true_or, or_true]) (fun b => by simp only [keyc_append, keyc_cons, keyc_nil]; omega)
  have HB := Lib.hid (blocks_any h hH2)
  have HD := Lib.hid (fun (v : Value) (Hl : HL) (wx : World) (p : Nat) (hv : IsNums v (numsTo s.B) Hl) (hx : Holds wx (Hl ++ (H ++ (Hc ++ ((p, .cells #[.pointer (some ⟨b, 0, none⟩)] 28) :: Fr))))) =>
    indel_any p v (numsTo s.B) Hl (H ++ (Hc ++ ((p, .cells #[.pointer (some ⟨b, 0, none⟩)] 28) :: Fr))) wx (fun k => !c.markOf k) (fun wy X hy x => bad1_any x p h hch (hy.right) (hy.right.right.right.hcell 0)) hv hx (by rw [numsTo_len]; omega))
  have HRE := Lib.hid (show badS s c = (onlyI (fun k => !c.markOf k) (numsTo s.B)).length from rfl)
  generalize badS s c = res at *
  generalize onlyI (fun k => !c.markOf k) (numsTo s.B) = L at *
  clear h hch hH hH1
  go_enter Tryz.func25, Tryz.ntmps25
  go_upto_region 3 with fail
  generalize w.alloc (.cells #[.pointer (some ⟨b, 0, none⟩)] 28) = w1 at *
  generalize w.heap.size = p at *
  have x0 := hH2.right.right.hcell 0
  go_wp2_with fail
  refine HB.out.mono ?_
  rintro e w2 ⟨v, Hl, rfl, hv, hH3, hg3⟩
  have HD2 := Lib.hid (HD.out v Hl w2 p hv hH3)
  have hG3 := hg1.trans hg3
  clear hv hH2 hH3 hg1 hg3 x0 HB
  go_wp2_with fail
  refine HD2.out.mono ?_
  rintro e w3 ⟨v2, H2, rfl, hv2, hH4, hg4⟩
  obtain ⟨A2, c2, rfl⟩ := hv2.val
  have HH4 := Lib.hid hH4
  clear hv2 hH4 HD2 HD
  go_wp2_with fail
  go_ret
  rw [HRE.out]
  exact ⟨rfl, HH4.out.sub (by (repeat' (first | refine sub_append ?_ ?_ | refine sub_cons ?_ ?_ | exact sub_nil)); all_goals first | (intro p hp; simp only [List.mem_append, List.mem_cons, hp, true_or, or_true]) | simp only [List.mem_append, List.mem_cons, true_or, or_true]) (fun b => by simp only [keyc_append, keyc_cons, keyc_nil]; omega), hG3.trans hg4⟩
end Go.Proofs.YtoelopghilbfeaaGreat
