/-
  Lemmas.
-/
import Derived.Test.YtalnifciidblkaaGreatDoorWL17T
namespace Go.Proofs.YtalnifciidblkaaGreatDoor
open _root_.Go.Proofs.Tryz
open Go.RowKit
set_option linter.unusedSimpArgs false
set_option linter.unusedVariables false
set_option maxRecDepth 100000
set_option maxHeartbeats 8000000
section
variable{s s':SM}{c c':CM}{nm:List UInt8}{N M:Int}{l l':LM}
theorem gy.seq(S:gy nm N l s c){n:Int}{h:Hd}(hh:aq s.hs n=some h):h.s<=l.last:=by
 obtain⟨es,bK,nps,q0,I⟩:=S.inv;obtain⟨m,rfl,hm,d,hd⟩:=I.sin.cont.has hh;exact(I.kX.le m d h hm hd).1
theorem gy.BU(S:gy nm N l s c):0<=l.last:=by
 obtain⟨es,bK,nps,q0,I⟩:=S.inv;exact I.kX.l0
theorem gy.yk(S:gy nm N l s c):aV s c∧oV s.P s.y:=by
 obtain⟨es,bK,nps,q0,I⟩:=S.inv;exact⟨I.sin.cont,I.sin.cont.vu⟩
end
theorem mH(va vb:Value)(xs:List az)(w:World)(ha:eC w va xs)(hb:eC w vb xs):Calls Tryz.prog 17 #[va,vb] w (zQ w (.bool true)):=by
 have h:=rr va vb xs xs w ha hb;rwa[decide_eq_true rfl]at h
end Go.Proofs.YtalnifciidblkaaGreatDoor
