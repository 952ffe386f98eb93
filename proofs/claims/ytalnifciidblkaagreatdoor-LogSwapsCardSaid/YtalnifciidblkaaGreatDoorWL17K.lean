/-
  Lemmas.
-/
import Derived.Test.YtalnifciidblkaaGreatDoorWMl12
namespace Go.Proofs.YtalnifciidblkaaGreatDoor
open _root_.Go.Proofs.Tryz
open Go.RowKit
set_option linter.unusedSimpArgs false
set_option linter.unusedVariables false
set_option maxRecDepth 100000
set_option maxHeartbeats 8000000
theorem FH:(aL aR (bW (CM.new 16 4 128 [] [])).1 (CM.new 16 4 128 [] [])).2.2.2=0∧xK [] 1 (aL aR (bW (CM.new 16 4 128 [] [])).1 (CM.new 16 4 128 [] [])).1 (aL aR (bW (CM.new 16 4 128 [] [])).1 (CM.new 16 4 128 [] [])).2.1 (aL aR (bW (CM.new 16 4 128 [] [])).1 (CM.new 16 4 128 [] [])).2.2.1∧63<=bE (aL aR (bW (CM.new 16 4 128 [] [])).1 (CM.new 16 4 128 [] [])).2.1 (aL aR (bW (CM.new 16 4 128 [] [])).1 (CM.new 16 4 128 [] [])).2.2.1∧(aL aR (bW (CM.new 16 4 128 [] [])).1 (CM.new 16 4 128 [] [])).2.2.1.ops<=2400∧(aL aR (bW (CM.new 16 4 128 [] [])).1 (CM.new 16 4 128 [] [])).1.gen=1:=by
 obtain⟨_,pK,rT,gF,ju,ir⟩:=pA [];have hr:bE (bW (CM.new 16 4 128 [] [])).1 (CM.new 16 4 128 [] [])=64:=by have:=AQ;rw[Px];exact this
 obtain⟨f1,f2,f3,f4,f5,f6,f7,f8,f9,f10,f11⟩:=Cu (nm:=aR) eI pK rT yQ gF ju (fun n _=>nB [] [] n) (by rw[hr];omega);rw[hr]at f8;rw[ir]at f11;generalize aL aR (bW (CM.new 16 4 128 [] [])).1 (CM.new 16 4 128 [] [])=r at*;exact⟨f1,⟨f2,f3,f4,[],f10,rfl⟩,by rw[f8];omega,by omega,f6⟩
section
variable{nm:List UInt8}{N:Int}{l:LM}{s:SM}{c:CM}{b sb cb g cap:Nat}{mv:Value}{H Hs Hc Fr:HL}{w:World}
theorem gy.oL(S:gy nm N l s c)(hN:N<=100000)(v:Value)(ns:List Nt)(h:aT b sb l H)(hs:cr sb cb s Hs)(cz:ai cb g cap mv c Hc)(hH:Holds w (H++(Hs++(Hc++Fr))))(fI:c.ops<=900000000000)
  (hv:cU Fr v ns)(iu:∀n∈ns,n.vg)(hlen:ns.length<=1000):Calls Tryz.prog 13 #[.pointer (some ⟨b,0,none⟩),v] w (JF b sb cb g cap mv (aA l s c ns) w Fr):=by
 obtain⟨es,bK,nps,q0,I⟩:=S.inv;have h1:=S.last;have h2:=S.aj;have h3:=I.kX.g0;have h4:=I.kX.gt;have h5:=I.kX.l0;have h6:=I.len;have h7:=S.ad;exact jO v ns h hs cz hH I.sin.cont I.live (by rw[S.ja.1];omega) fI hv iu hlen (fun e he=>(I.lA.1 e he).2.1) (by omega) I.lA.inc ⟨h5,by omega⟩ ⟨h3,by omega⟩ (by omega)
theorem gy.PA(S:gy nm N l s c)(hN:N<=100000)(h:aT b sb l H)(hs:cr sb cb s Hs)(cz:ai cb g cap mv c Hc)(hH:Holds w (H++(Hs++(Hc++Fr))))(fI:c.ops<=900000000000):
  Calls Tryz.prog 20 #[.pointer (some ⟨b,0,none⟩)] w (JF b sb cb g cap mv (aH l s c) w Fr):=by
 obtain⟨es,bK,nps,q0,I⟩:=S.inv;have h1:=S.last;have h2:=S.aj;have h3:=I.kX.g0;have h4:=I.kX.gt;have h5:=I.kX.l0;have h6:=I.len;have h7:=S.ad;exact sV h hs cz hH I.sin.cont I.live (by rw[S.ja.1];omega) fI I.kX.low I.lA (by omega) ⟨h5,by omega⟩ ⟨by omega,by omega⟩ (by omega)
end
end Go.Proofs.YtalnifciidblkaaGreatDoor
