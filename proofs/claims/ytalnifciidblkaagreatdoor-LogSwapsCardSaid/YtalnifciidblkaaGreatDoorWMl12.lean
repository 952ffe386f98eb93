/-
  Lemmas.
-/
import Derived.Test.YtalnifciidblkaaGreatDoorWL17L
import Derived.Test.YtalnifciidblkaaGreatDoorWMl11
namespace Go.Proofs.YtalnifciidblkaaGreatDoor
open Go.RowKit
set_option linter.unusedSimpArgs false
set_option linter.unusedVariables false
structure xK(E:List az)(N:Int)(l:LM)(s:SM)(c:CM):Prop where
 S:gy aR N l s c
 q:eD c
 T:l.T=E
 D:∃D,sE s D∧D.length=E.length
section
variable{E:List az}{N:Int}{l:LM}{s:SM}{c:CM}
theorem xK.mono(h:xK E N l s c){M:Int}(hM:N<=M):xK E M l s c:=⟨h.S.mono hM,h.q,h.T,h.D⟩
theorem xK.count(h:xK E N l s c):(aC s).length=l.ad.length+E.length:=by
 obtain⟨D,hD,hl⟩:=h.D;rw[yH h.S.yk.1,C7,h.S.F5,h.S.count hD,hl]
theorem xK.room(h:xK E N l s c)(hn:l.ad.length+E.length<=10):20<=bE s c:=by
 have h1:=Sm h.S.yk.1 h.q;have h2:=Kt h.S.ja.1 h.S.ja.2.1;obtain⟨D,hD,hl⟩:=h.D;rw[h.S.count hD,hl]at h2;rw[h.S.ja.2.1]at h1;have h3:6<=et s:=by omega
 omega
theorem N6(n:Nt):(aO 128 [n]).length<=1:=(fN (Z:=128) (by omega) 1 [n] (by simp)).2
theorem Db(S:gy aR N l s c)(q:eD c)(hN:N<=900000){n:Nt}(cj:BD l.T s [n])(hr:1<=bE s c):
  (aA l s c [n]).2.2.2=0∧gy aR (N+1) (aA l s c [n]).1 (aA l s c [n]).2.1 (aA l s c [n]).2.2.1∧eD (aA l s c [n]).2.2.1∧(aA l s c [n]).1.T=aI l.T [n]∧(aA l s c [n]).1.gen=l.gen∧
   bE s c-1<=bE (aA l s c [n]).2.1 (aA l s c [n]).2.2.1∧mc s c (aA l s c [n]).2.1 (aA l s c [n]).2.2.1∧(aA l s c [n]).2.2.1.ops<=c.ops+2400:=by
 have e:aA l s c [n]=jI s.Z (aO s.Z [n]) l s c:=by unfold aA;rw[if_pos (cj.may S)]
 have ff:=N6 n;obtain⟨a1,a2,a3,a4,a5,a6,a7,a8,a9⟩:=S.Ku q (by omega) (by simp) cj.2.1 cj.2.2 (by omega);have ho:=(S.uW (by omega) (ns:=[n]) (by simp) cj.2.1).2;rw[e];exact⟨a1,by simpa using a2,a3,a4,a6,by omega,a9,by simpa using ho⟩
theorem Wp{L:List az}{a:Int}(h:∀e∈L,e.addr≠a):iO L a=L:=by
 unfold iO;exact List.filter_eq_self.2 fun e he=>by simpa using h e he
theorem Wq{L:List az}{e:az}(h:∀x∈L,x.addr<e.addr):fV L e=L++[e]:=by
 unfold fV;rw[List.filter_eq_self.2 (fun x hx=>by simpa using h x hx),List.filter_eq_nil_iff.2 (fun x hx=>by have:=h x hx;simp;omega)]
def qm:Nt:=⟨true,⟨1099511627776,0,false,9⟩⟩
theorem xK.gone(h:xK E N l s c)(hN:N<=900000)(hE:∀e∈E,e.addr<100)(hr:1<=bE s c):
  (aA l s c [qm]).2.2.2=0∧xK E (N+1) (aA l s c [qm]).1 (aA l s c [qm]).2.1 (aA l s c [qm]).2.2.1∧(aA l s c [qm]).1.gen=l.gen∧bE s c-1<=bE (aA l s c [qm]).2.1 (aA l s c [qm]).2.2.1∧(aA l s c [qm]).2.2.1.ops<=c.ops+2400:=by
 have cj:BD l.T s [qm]:=h.S.acS (by simp) (fun n hn=>by
  rw[List.mem_singleton.1 hn];exact⟨⟨⟨by show(0:Int)<=1099511627776∧(1099511627776:Int)<18446744073709551616;omega,by show(-9223372036854775808:Int)<=0∧(0:Int)<=9223372036854775807;omega,by show(-9223372036854775808:Int)<=9∧(9:Int)<=9223372036854775807;omega⟩,rfl⟩,aQ rfl⟩)
 obtain⟨a1,a2,a3,a4,a5,a6,a7,a8⟩:=Db h.S h.q hN cj hr;have hT:aI l.T [qm]=l.T:=by
  show iO l.T 1099511627776=l.T;exact Wp fun e he=>by rw[h.T]at he;have:=hE e he;omega
 obtain⟨D,hD,hl⟩:=h.D;exact⟨a1,⟨a2,a3,by rw[a4,hT,h.T],D,hD.eq a7,hl⟩,a5,a6,a8⟩
theorem xK.put(h:xK E N l s c)(hN:N<=800000){a:Int}{d:List UInt8}(ha:0<=a∧a<100)(hd:d.length=128)(hr:2<=bE s c){b:Bool}{sq:Int}(hsq:1<=sq∧sq<=100)(haE:∀e∈E,e.addr<a):
  (bn s c ⟨1,a,l.last+1,0⟩ d).2.2.2=0∧∃p:Nat,(bn s c ⟨1,a,l.last+1,0⟩ d).2.2.1=p∧p<64∧gy aR (N+1) {l with last:=l.last+1} (bn s c ⟨1,a,l.last+1,0⟩ d).1 (bn s c ⟨1,a,l.last+1,0⟩ d).2.1∧(bn s c ⟨1,a,l.last+1,0⟩ d).2.1.ops<=c.ops+2400∧
   (aA {l with last:=l.last+1} (bn s c ⟨1,a,l.last+1,0⟩ d).1 (bn s c ⟨1,a,l.last+1,0⟩ d).2.1 [⟨false,⟨a,p,b,sq⟩⟩]).2.2.2=0∧
   xK (E++[⟨a,p,b,sq⟩]) (N+2) (aA {l with last:=l.last+1} (bn s c ⟨1,a,l.last+1,0⟩ d).1 (bn s c ⟨1,a,l.last+1,0⟩ d).2.1 [⟨false,⟨a,p,b,sq⟩⟩]).1 (aA {l with last:=l.last+1} (bn s c ⟨1,a,l.last+1,0⟩ d).1 (bn s c ⟨1,a,l.last+1,0⟩ d).2.1 [⟨false,⟨a,p,b,sq⟩⟩]).2.1 (aA {l with last:=l.last+1} (bn s c ⟨1,a,l.last+1,0⟩ d).1 (bn s c ⟨1,a,l.last+1,0⟩ d).2.1 [⟨false,⟨a,p,b,sq⟩⟩]).2.2.1∧
   bE s c-2<=bE (aA {l with last:=l.last+1} (bn s c ⟨1,a,l.last+1,0⟩ d).1 (bn s c ⟨1,a,l.last+1,0⟩ d).2.1 [⟨false,⟨a,p,b,sq⟩⟩]).2.1 (aA {l with last:=l.last+1} (bn s c ⟨1,a,l.last+1,0⟩ d).1 (bn s c ⟨1,a,l.last+1,0⟩ d).2.1 [⟨false,⟨a,p,b,sq⟩⟩]).2.2.1∧
   (aA {l with last:=l.last+1} (bn s c ⟨1,a,l.last+1,0⟩ d).1 (bn s c ⟨1,a,l.last+1,0⟩ d).2.1 [⟨false,⟨a,p,b,sq⟩⟩]).2.2.1.ops<=c.ops+4800:=by
 obtain⟨D,hD,hl⟩:=h.D;obtain⟨a1,a2,a3,a4,a5,p,a6,a7,a8,a9,a10⟩:=h.S.zl h.q (by omega) (a:=a) (d:=d) (by omega) hd (by omega) hD;have so:=jC h.S.yk.1 ⟨1,a,l.last+1,0⟩ d;have tg:=so.2.2.2.2.2;generalize bn s c ⟨1,a,l.last+1,0⟩ d=r at*;have cj:BD ({l with last:=l.last+1}:LM).T r.1 [⟨false,⟨a,p,b,sq⟩⟩]:=a2.one (e:=⟨a,p,b,sq⟩) ⟨by show 0<=a∧a<18446744073709551616;omega,by show(0:Int)<=(p:Int)∧(p:Int)<=255;omega,by show 1<=sq∧sq<=1099511627775;omega⟩ rfl a8 (by show(1:Int)≠3;decide) (by show(1:Int)≠4;decide) a9;obtain⟨b1,b2,b3,b4,b5,b6,b7,b8⟩:=Db a2 a3 (by omega) cj (by omega);refine⟨a1,p,a6,a7,a2,by omega,b1,⟨by have:=b2.mono (M:=N+2) (by omega);exact this,b3,?_,D++[p],a10.eq b7,by simp[hl]⟩,by omega,by omega⟩;rw[b4];show fV l.T ⟨a,p,b,sq⟩=_;rw[h.T];exact Wq haE
theorem Kx(m:Nat)(h:m<9):aM 128 m=(max m 1+4)/5:=by
 have:∀m:Fin 9,aM 128 m.1=(max m.1 1+4)/5:=by decide
 exact this ⟨m,h⟩
theorem xK.check(h:xK E N l s c)(hN:N<=900000)(hE:E.length<9)(hr:2<=bE s c):
  (aH l s c).2.2.2=0∧xK E (N+30) (aH l s c).1 (aH l s c).2.1 (aH l s c).2.2.1∧l.gen<(aH l s c).1.gen∧(aH l s c).1.ad.length=(max E.length 1+4)/5∧20<=bE (aH l s c).2.1 (aH l s c).2.2.1∧(aH l s c).2.2.1.ops<=c.ops+100000:=by
 have hp:=Kx E.length hE;rw[<-h.T]at hp;have WO:l.T.length=E.length:=by rw[h.T]
 obtain⟨a1,a2,a3,a4,a5,a6,a7,a8,a9⟩:=h.S.Pw h.q (by omega) (by omega);have ho:=(h.S.yO (by omega)).2;obtain⟨D,hD,hl⟩:=h.D;have hC:xK E (N+30) (aH l s c).1 (aH l s c).2.1 (aH l s c).2.2.1:=⟨a2,a3,a4.trans h.T,D,hD.eq a9,hl⟩;refine⟨a1,hC,a5,by rw[a6,hp,h.T],hC.room ?_,ho⟩;rw[a6,hp,h.T];omega
end
end Go.Proofs.YtalnifciidblkaaGreatDoor
