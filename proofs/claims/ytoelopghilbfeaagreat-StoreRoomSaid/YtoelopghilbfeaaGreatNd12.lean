/-
  Package nand: Geometry, Off.
-/
import Derived.Test.YtoelopghilbfeaaGreatNdA
import Derived.Test.YtoelopghilbfeaaGreatPlA
namespace Go.Proofs.YtoelopghilbfeaaGreat
open Go.RowKit
set_option linter.unusedSimpArgs false
set_option linter.unusedVariables false
variable {b g cap:Nat} {mv:Value} {c:CM} {H Fr:HL} {w:World}
set_option maxRecDepth 20000 in
theorem ngeo_any (h:ChipAt b g cap mv c H) (hH:Holds w (H++Fr)):Calls Tryz.prog 41 #[.pointer (some ⟨b,0,none⟩)] w (RetFr (.agg #[.int .i64 (c.blocks.length:Int),.int .i64 (c.P:Int),.int .i64 (c.Z:Int)]) w (H++Fr)):=by
 have hq:=hH.alloc' (.cells #[.int .i64 0,.int .i64 0,.int .i64 0] 26)
 have a:=h.heads hH
 have hH1:=hH.alloc (.cells #[.int .i64 (c.blocks.length:Int),.int .i64 (c.P:Int),.int .i64 (c.Z:Int)] 26)
 have hg1:=(Grew.refl w).alloc (.cells #[.int .i64 (c.blocks.length:Int),.int .i64 (c.P:Int),.int .i64 (c.Z:Int)] 26)
 obtain ⟨c0,c1,c2,c3,c4,c5,c6,c7,c8,_⟩:=h.heads hq
 clear h
 go_enter Tryz.func41,Tryz.ntmps41
 go_wp2_with fail
 refine bodyPost_ret (v:=.agg #[.int .i64 (c.blocks.length:Int),.int .i64 (c.P:Int),.int .i64 (c.Z:Int)]) (by rw [results_cell1'' rfl];go_simp) rfl ⟨rfl,?_,?_⟩
 ·exact hH1.tail
 ·exact hg1
set_option maxRecDepth 20000 in
theorem noff_any (h:ChipAt b g cap mv c H) (hH:Holds w (H++Fr)):Calls Tryz.prog 61 #[.pointer (some ⟨b,0,none⟩)] w (fun e w'=>e=.returned (.tuple #[])∧∃ H',ChipAt b g cap mv { c with on:=false } H'∧Holds w' (H'++Fr)∧Grew w w'):=by
 obtain ⟨c0,c1,c2,c3,c4,c5,c6,c7,c8,f5,f⟩:=h.heads hH
 obtain ⟨H',hc,hh⟩:=h.setOn hH false
 have HC:=Lib.hid hc
 have HH:=Lib.hid hh
 clear h hc hh hH
 go_enter Tryz.func61,Tryz.ntmps61
 go_wp2_with fail
 exact bodyPost_end (v:=.tuple #[]) (results_none rfl _ _ _) rfl ⟨rfl,H',HC.out,HH.out,(Grew.refl w).setCell _ _⟩
end Go.Proofs.YtoelopghilbfeaaGreat
