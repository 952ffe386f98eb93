/-
  Lemmas.
-/
import Derived.Test.YtalnifciidblkaaGreatDoorG31
import Derived.Test.YtalnifciidblkaaGreatDoorG06
import Derived.Test.YtalnifciidblkaaGreatDoorG27
namespace Go.Proofs.YtalnifciidblkaaGreatDoor
open Go.RowKit
set_option linter.unusedSimpArgs false
set_option linter.unusedVariables false
section
variable{s s':SM}{c c':CM}{l:LM}{T T0:List az}
def pP(s:SM)(T:List az):Prop:=∀e∈T,∃(p:Nat) (h:Hd),e.aW=(p:Int)∧aq s.hs (p:Int)=some h∧h.k≠3∧h.k≠4
def Yc(c:CM)(T:List az):Prop:=∀e∈T,∃(p:Nat) (d:List UInt8) (h:Hd),e.aW=(p:Int)∧p<64∧c.vN p=some (d,h)∧h.k≠3∧h.k≠4
theorem pP.nil(s:SM):pP s []:=fun e he=>absurd he (by simp)
theorem pP.eq(h:pP s T)(d:mc s c s' c'):pP s' T:=by
 intro e he;obtain⟨p,x,h1,h2,h3,h4⟩:=h e he;exact⟨p,x,h1,(d.fw p x h2 h3 h4).1,h3,h4⟩
theorem pP.ZU(h:pP s T)(hC:aV s c)(hg:s.B*s.P=64):Yc c T:=by
 intro e he;obtain⟨p,x,h1,h2,h3,h4⟩:=h e he;obtain⟨m,e2,hm,d,hd⟩:=hC.has h2;obtain rfl:p=m:=by omega
 exact⟨p,d,x,h1,by omega,hd,h3,h4⟩
def z8(T0 T:List az):Prop:=∀e∈T,∃x∈T0,e.addr=x.addr∧e.aW=x.aW∧e.seq=x.seq
def U4(T0:List az)(n:Nt):Prop:=n.gone=true∨∃x∈T0,n.e.addr=x.addr∧n.e.aW=x.aW∧n.e.seq=x.seq
theorem z8.refl(T:List az):z8 T T:=fun e he=>⟨e,he,rfl,rfl,rfl⟩
theorem z8.app(h:z8 T0 T){n:Nt}(hn:U4 T0 n):z8 T0 (su T n):=by
 intro e he;unfold su at he;split at he
 ·exact h e (qx.1 he).1
 ·next hg=>
  rcases iS.1 he with rfl|⟨he,_⟩
  ·rcases hn with hn|hn
   ·exact absurd hn hg
   ·exact hn
  ·exact h e he
theorem z8.apps(h:z8 T0 T):∀{ns:List Nt},(∀n∈ns,U4 T0 n)->z8 T0 (aI T ns):=by
 intro ns
 induction ns generalizing T with
 |nil=>intro _;exact h
 |cons n ns ih=>intro hn;exact ih (h.app (hn n dC)) fun m hm=>hn m (fA _ hm)
theorem dd.B7(h:dd T0){x y:az}(hx:x∈T0)(hy:y∈T0)(he:x.addr≠y.addr):x.aW≠y.aW:=by
 obtain⟨i,hi,rfl⟩:=List.getElem_of_mem hx;obtain⟨j,hj,rfl⟩:=List.getElem_of_mem hy;rcases Nat.lt_trichotomy i j with h1|h1|h1
 ·exact(h.2 i j hi hj h1).2
 ·subst h1;exact absurd rfl he
 ·exact(h.2 j i hj hi h1).2.symm
theorem Ct(hi:eU T)(hf:∀e∈T,e.fit)(hp:∀x∈T,∀y∈T,x.addr≠y.addr->x.aW≠y.aW):dd T:=by
 refine⟨hf,fun i j LW xF rF=>?_⟩;have h1:=(List.pairwise_iff_getElem.1 (show List.Pairwise _ T from hi)) i j LW xF rF;exact⟨h1,hp _ (cX LW) _ (cX xF) (by omega)⟩
theorem dd.sub(h:dd T0)(hs:z8 T0 T)(hi:eU T):dd T∧T.length<=T0.length:=by
 refine⟨Ct hi (fun e he=>?_) fun x hx y hy ha=>?_,?_⟩
 ·obtain⟨x,hx,h1,h2,h3⟩:=hs e he;have:=h.1 x hx;unfold az.fit at this⊢;rw[h1,h2,h3];exact this
 ·obtain⟨x',qN,h1,h2,h3⟩:=hs x hx;obtain⟨y',uv,g1,g2,g3⟩:=hs y hy;rw[h2,g2];exact h.B7 qN uv (by rw[<-h1,<-g1];exact ha)
 ·have hn:(T.map (·.addr)).Nodup:=by
   rw[vL,rK];exact List.Pairwise.imp (fun{a b} (h:a.addr<b.addr)=>by omega) (show List.Pairwise _ T from hi)
  have:=kD (T.map (·.addr)) (T0.map (·.addr)) hn fun a ha=>by
   obtain⟨e,he,rfl⟩:=List.mem_map.1 ha;obtain⟨x,hx,h1,_⟩:=hs e he;rw[h1];exact List.mem_map.2 ⟨x,hx,rfl⟩
  rwa[bY,bY]at this
theorem pP.sub(h:pP s T0)(hs:z8 T0 T):pP s T:=by
 intro e he;obtain⟨x,hx,_,h2,_⟩:=hs e he;rw[h2];exact h x hx
theorem FD{α:Type}(L:List (List α))(k:Nat):∃j,j<=L.flatten.length∧(L.take k).flatten=L.flatten.take j:=by
 have e:L.flatten=(L.take k).flatten++(L.drop k).flatten:=by rw[<-qe,oz]
 refine⟨(L.take k).flatten.length,?_,?_⟩
 ·rw[e,aY];omega
 ·rw[e];simp
theorem tG(h:dd T)(hd:Yc c T):T.length<=64:=by
 have hn:(T.map (·.aW)).Nodup:=by
  rw[vL,rK,BM];intro i j hi hj rF;exact(h.2 i j hi hj rF).2
 have:=kD (T.map (·.aW)) ((List.range 64).map fun i:Nat=>(i:Int)) hn fun a ha=>by
  obtain⟨e,he,rfl⟩:=List.mem_map.1 ha;obtain⟨p,_,_,h1,h2,_⟩:=hd e he;exact List.mem_map.2 ⟨p,List.mem_range.2 h2,h1.symm⟩
 rwa[bY,bY,fP]at this
structure gy(nm:List UInt8)(N:Int)(l:LM)(s:SM)(c:CM):Prop where
 inv:∃es bK nps q0,z7 l s c es bK nps q0
 ja:s.B=16∧s.P=4∧s.Z=128
 kT:c.bZ=0
 F4:pP s l.T
 name:l.name=nm
 last:l.last<=N
 aj:l.aj<=N
structure Bi(nm:List UInt8)(N:Int)(P:List az->List Nat->Int->Prop)(c:CM):Prop where
 ja:c.blocks.length=16∧c.P=4∧c.Z=128
 shape:∀(k:Nat) (x:CB),c.blocks[k]?=some x->x.shape c.P c.Z
 kT:c.bZ=0
 st:∃T g es bK nps q0 last aj,uA c 64 128 nm g es bK nps q0 last aj∧aI es (nps.map NP.ns).flatten=T∧dd T∧T.length<=64∧last<=N∧aj<=N∧P T (bK++nps.map NP.p) g∧Yc c T
theorem Bi.of{nm:List UInt8}{N:Int}{P:List az->List Nat->Int->Prop}{T:List az}(h1:c.blocks.length=16∧c.P=4∧c.Z=128)(h2:∀(k:Nat) (x:CB),c.blocks[k]?=some x->x.shape c.P c.Z)(h3:c.bZ=0)(h4:∀o g,P T o g)(h5:pz c 64 128 nm T N N)(h6:Yc c T):Bi nm N P c:=by
 obtain⟨a1,a2,g,es,bK,nps,q0,last,aj,a3,a4,a5,a6⟩:=h5;exact⟨h1,h2,h3,T,g,es,bK,nps,q0,last,aj,a3,a4,a1,a2,a5,a6,h4 _ _,h6⟩
section
variable{nm:List UInt8}{N:Int}
theorem gy.F5(S:gy nm N l s c):s.B*s.P=64:=by rw[S.ja.1,S.ja.2.1]
theorem gy.mono(S:gy nm N l s c){M:Int}(h:N<=M):gy nm M l s c:=⟨S.inv,S.ja,S.kT,S.F4,S.name,by have:=S.last;omega,by have:=S.aj;omega⟩
theorem Bi.mono{P Q:List az->List Nat->Int->Prop}(D:Bi nm N P c){M:Int}(h:N<=M)(hq:∀T o g,P T o g->Q T o g):Bi nm M Q c:=by
 obtain⟨T,g,es,bK,nps,q0,last,aj,a1,a2,a3,a4,a5,a6,a7,a8⟩:=D.st;exact⟨D.ja,D.shape,D.kT,T,g,es,bK,nps,q0,last,aj,a1,a2,a3,a4,by omega,by omega,hq _ _ _ a7,a8⟩
theorem aV.ja(hC:aV s c)(h1:s.B=16)(h2:s.P=4)(h3:s.Z=128):(c.blocks.length=16∧c.P=4∧c.Z=128)∧∀(k:Nat) (x:CB),c.blocks[k]?=some x->x.shape c.P c.Z:=
 ⟨⟨hC.B.trans h1,hC.P.trans h2,hC.Z.trans h3⟩,fun k x h=>by rw[hC.P,hC.Z];exact hC.shape k x h⟩
theorem gy.toD(S:gy nm N l s c):Bi nm N (fun T o g=>T=l.T∧o=l.ad∧g=l.gen) c:=by
 obtain⟨es,bK,nps,q0,I⟩:=S.inv;obtain⟨h1,h2⟩:=I.sin.cont.ja S.ja.1 S.ja.2.1 S.ja.2.2;have hc:=I.kX;rw[S.F5,S.ja.2.2,S.name]at hc;exact⟨h1,h2,S.kT,l.T,_,_,_,_,_,_,_,hc,I.Iz.symm,I.lA,I.len,S.last,S.aj,⟨rfl,I.pg.symm,rfl⟩,S.F4.ZU I.sin.cont S.F5⟩
theorem gy.num(S:gy nm N l s c){k:Int}(hk:0<=k):gy nm (N+k) {l with last:=l.last+k} s c:=by
 obtain⟨es,bK,nps,q0,I⟩:=S.inv;refine⟨⟨es,bK,nps,q0,I.live,I.sin,I.kX.step (fun _ _=>rfl) (fun _ _ _ _ h=>aQ h) (by show l.last<=l.last+k;omega) (bG _),I.pg,I.Iz,I.lA,I.len⟩,S.ja,S.kT,S.F4,S.name,?_,?_⟩
 ·show l.last+k<=N+k;have:=S.last;omega
 ·show l.aj<=N+k;have:=S.aj;omega
theorem gy.reads(S:gy nm N l s c)(r:Reads c c')(fi:c'.on=true):gy nm N l s c':=by
 obtain⟨es,bK,nps,q0,I⟩:=S.inv;refine⟨⟨es,bK,nps,q0,r.live I.live fi,⟨I.sin.cont.reads r,I.sin.N,I.sin.Z,I.sin.has,I.sin.Av,I.sin.nd⟩,I.kX.reads r,I.pg,I.Iz,I.lA,I.len⟩,S.ja,r.kT.trans S.kT,S.F4,S.name,S.last,S.aj⟩
theorem Bi.reads{P:List az->List Nat->Int->Prop}(D:Bi nm N P c)(r:Reads c c'):Bi nm N P c':=by
 obtain⟨T,g,es,bK,nps,q0,last,aj,h4,h5,h1,h2,h3,h7,h8,h6⟩:=D.st;have hv:∀n,c'.vN n=c.vN n:=fun n=>by unfold CM.vN;rw[r.ly,r.P]
 refine⟨by rw[r.blocks,r.P,r.Z];exact D.ja,fun k x h=>by rw[r.P,r.Z];rw[r.blocks]at h;exact D.shape k x h,r.kT.trans D.kT,T,g,es,bK,nps,q0,last,aj,h4.reads r,h5,h1,h2,h3,h7,h8,?_⟩;intro e he;obtain⟨p,d,h,a1,a2,a3,a4⟩:=h6 e he;exact⟨p,d,h,a1,a2,by rw[hv];exact a3,a4⟩
theorem gy.check(S:gy nm N l s c)(hN:N<=1000000):
  (aH l s c).1.T=l.T∧(aH l s c).2.2.1.ms=c.ms∧
  (((aH l s c).2.2.2=0∧gy nm (N+30) (aH l s c).1 (aH l s c).2.1 (aH l s c).2.2.1∧l.gen<(aH l s c).1.gen∧(aH l s c).1.ad.length=aM 128 l.T.length)∨
   ((aH l s c).2.2.2=7∧gy nm (N+30) (aH l s c).1 (aH l s c).2.1 (aH l s c).2.2.1)∨
   ((aH l s c).2.2.2=4∧(aH l s c).2.2.1.on=false∧(∃m∈c.ms,m.kind=2)∧Bi nm (N+30) (fun T _ _=>T=l.T) (aH l s c).2.2.1)):=by
 obtain⟨es,bK,nps,q0,I⟩:=S.inv;have hZ:=S.ja.2.2;have hpz:=qD (Z:=s.Z) (by omega) I.len;have hl:=S.last;have ht:=S.aj;have DL:=I.kX.gt;obtain⟨h1,h2,h3,h4,h5,h6⟩:=zB I (by omega) (by omega);generalize aH l s c=r at*;have hg:r.2.1.B=16∧r.2.1.P=4∧r.2.1.Z=128:=⟨h1.B.trans S.ja.1,h1.P.trans S.ja.2.1,h1.Z.trans hZ⟩;have hd:pP r.2.1 r.1.T:=by rw[h4];exact S.F4.eq h1
 refine⟨h4,h1.ms,?_⟩;rcases h6 with⟨a1,a2,a3,acv,a4⟩|⟨a1,a2,a3⟩|⟨a1,a2,a3,a4,a5⟩
 ·exact aQ ⟨a1,⟨⟨_,_,_,_,a4⟩,hg,h1.kT.trans S.kT,hd,h2.trans S.name,by omega,by omega⟩,by omega,by rw[a3,hZ]⟩
 ·exact aE (aQ ⟨a1,⟨⟨_,_,_,_,a3⟩,hg,h1.kT.trans S.kT,hd,h2.trans S.name,by omega,by omega⟩⟩)
 ·obtain⟨g1,g2⟩:=a4.ja hg.1 hg.2.1 hg.2.2;rw[S.F5,hZ,S.name]at a5;rw[hZ]at hpz;exact aE (aE ⟨a1,a2,a3,Bi.of g1 g2 (h1.kT.trans S.kT) (fun _ _=>rfl) (a5.mono (by omega) (by omega)) (by rw[h4]at hd;exact hd.ZU a4 (by rw[hg.1,hg.2.1]))⟩)
theorem gy.ym(S:gy nm N l s c)(hN:N<=1000000){ns:List Nt}(hlen:ns.length<=1000)(iu:∀n∈ns,n.vg∧n.ok=true)(hp:∀j,j<=ns.length->dd (aI l.T (ns.take j))∧pP s (aI l.T (ns.take j))):
  let r:=jI s.Z (aO s.Z ns) l s c
  r.2.2.1.ms=c.ms∧
  ((r.2.2.2=0∧gy nm (N+ns.length) r.1 r.2.1 r.2.2.1∧r.1.T=aI l.T ns∧r.1.ad.length=l.ad.length+(aO 128 ns).length∧r.1.gen=l.gen)∨
   (r.2.2.2=7∧gy nm (N+ns.length) r.1 r.2.1 r.2.2.1∧∃k,k<(aO 128 ns).length∧r.1.T=aI l.T ((aO 128 ns).take k).flatten)∨
   (r.2.2.2=4∧r.2.2.1.on=false∧(∃m∈c.ms,m.kind=2)∧Bi nm (N+ns.length) (fun T _ _=>∃k,k<=(aO 128 ns).length∧T=aI l.T ((aO 128 ns).take k).flatten) r.2.2.1)):=by
 intro r;obtain⟨es,bK,nps,q0,I⟩:=S.inv;have hZ:=S.ja.2.2;have hl:=S.last;have ht:=S.aj;obtain⟨f1,f2⟩:=fN (Z:=s.Z) (by omega) ns.length ns (aN _);have P0:∀k,k<=(aO s.Z ns).length->(dd (aI l.T ((aO s.Z ns).take k).flatten)∧(aI l.T ((aO s.Z ns).take k).flatten).length<=64)∧pP s (aI l.T ((aO s.Z ns).take k).flatten):=by
  intro k _;obtain⟨j,hj,e⟩:=FD (aO s.Z ns) k;rw[f1]at hj e;rw[e];obtain⟨g1,g2⟩:=hp j hj;exact⟨⟨g1,tG g1 (g2.ZU I.sin.cont S.F5)⟩,g2⟩
 obtain⟨h1,h2⟩:=wP (aO s.Z ns) l s c nps I (mF (by omega) ns.length ns (aN _) hlen iu) (fun k hk=>(P0 k hk).1) (by omega) (by omega);have hr:jI s.Z (aO s.Z ns) l s c=r:=rfl;rw[hr]at h1 h2
 clear_value r
 have hg:r.2.1.B=16∧r.2.1.P=4∧r.2.1.Z=128:=⟨h1.B.trans S.ja.1,h1.P.trans S.ja.2.1,h1.Z.trans hZ⟩;refine⟨h1.ms,?_⟩;rw[hZ]at h2 P0 f1 f2;rcases h2 with⟨a1,⟨Mk,a2⟩,a3,a4,a5,a6,a7,a8⟩|⟨a1,k,a2,⟨Mk,a3⟩,a4,a5,a6,a7,a8⟩|⟨a1,a2,a3,a4,k,a5,a6⟩
 ·refine aQ ⟨a1,⟨⟨_,_,_,_,a2⟩,hg,h1.kT.trans S.kT,?_,a5.trans S.name,by omega,by omega⟩,by rw[a3,f1],a4,a6⟩;rw[a3];have:=(P0 _ (aN _)).2;rw[fB]at this;exact this.eq h1
 ·refine aE (aQ ⟨a1,⟨⟨_,_,_,_,a3⟩,hg,h1.kT.trans S.kT,?_,a5.trans S.name,by omega,by omega⟩,k,a2,a4⟩);rw[a4];exact((P0 k (by omega)).2).eq h1
 ·obtain⟨g1,g2⟩:=a4.ja hg.1 hg.2.1 hg.2.2;rw[S.F5,S.name]at a6;exact aE (aE ⟨a1,a2,a3,Bi.of g1 g2 (h1.kT.trans S.kT) (fun _ _=>⟨k,a5,rfl⟩) (a6.mono (by omega) (by omega)) ((((P0 k a5).2).eq h1).ZU a4 (by rw[hg.1,hg.2.1]))⟩)
theorem gy.put(S:gy nm N l s c)(hN:N<=1000000){a:Int}{d:List UInt8}(ha:0<=a∧a<18446744073709551616)(hd:d.length=128):
  let r:=bn s c ⟨1,a,l.last+1,0⟩ d
  r.2.1.ms=c.ms∧
  ((r.2.2.2=0∧gy nm (N+1) {l with last:=l.last+1} r.1 r.2.1∧∃p:Nat,r.2.2.1=p∧p<64∧aq r.1.hs (p:Int)=some ⟨1,a,l.last+1,0⟩∧∀e∈l.T,e.aW≠(p:Int))∨
   (r.2.2.2=7∧gy nm (N+1) {l with last:=l.last+1} r.1 r.2.1)∨
   (r.2.2.2=4∧r.2.1.on=false∧(∃m∈c.ms,m.kind=2)∧Bi nm (N+1) (fun T _ _=>T=l.T) r.2.1)):=by
 intro r;obtain⟨es,bK,nps,q0,I⟩:=S.inv;have hZ:=S.ja.2.2;have hl:=S.last;have ht:=S.aj;have C:=I.kX;have DF:=C.l0;have jD:=C.g0;have DL:=C.gt;have hm:(⟨1,a,l.last+1,0⟩:Hd).may=true:=by
  unfold Hd.may;simp;omega
 have Q:=xU (d:=d) I.sin.cont I.live hm ⟨ha.1,ha.2⟩ (by rw[hd,hZ]);have hr:bn s c ⟨1,a,l.last+1,0⟩ d=r:=rfl;rw[hr]at Q
 clear_value r
 have hg:r.1.B=16∧r.1.P=4∧r.1.Z=128:=⟨Q.B.trans S.ja.1,Q.P.trans S.ja.2.1,Q.Z.trans hZ⟩;have aoh:=S.F5;have WI:∀n∈bK++nps.map (·.p),r.2.1.vN n=c.vN n:=fun n hn=>by
  rw[<-I.pg]at hn;obtain⟨h,e,_⟩:=I.sin.has n hn;exact Q.keep n h e
 have XE:r.1.B*r.1.P=s.B*s.P:=by rw[Q.B,Q.P]
 have acL:(∀(n:Nat) v,n<s.B*s.P->r.2.1.vN n=some v->c.vN n=some v∨v=(d,⟨1,a,l.last+1,0⟩))->uA r.2.1 (s.B*s.P) s.Z l.name l.gen es bK nps q0 (l.last+1) l.aj:=fun hv=>
  C.step WI (fun n d' x hn hx=>by
   rcases hv n _ hn hx with e|e
   ·exact aQ e
   ·injection e with _ e;rw[e];exact aE ⟨by show(1:Int)≠3;decide,by show(1:Int)≠4;decide,bG _,by show(0:Int)<=l.aj;omega⟩) (by omega) (bG _)
 refine⟨Q.ms,?_⟩;rcases Q.Bd with⟨w1,w2,n,w3,w4,w5,w6,w7,w8⟩|⟨w1,w2,w3,w4⟩|⟨w1,w2,w3,w4,n,w5⟩
 ·have ei:∀m:Int,∀h,aq s.hs m=some h->m≠n:=fun m h hm e=>by rw[e,w5]at hm;exact absurd hm (by simp)
  have cz:=acL fun m v hm hv=>(w8 m v hm hv).symm.imp id fun e=>by rw[e,w7]at hv;injection hv with hv;exact hv.symm
  refine aQ ⟨w1,⟨⟨es,bK,nps,q0,w2,⟨Q.cont,rfl,rfl,?_,?_,I.sin.nd⟩,by rw[XE,Q.Z];exact cz,I.pg,I.Iz,I.lA,I.len⟩,hg,Q.kT.trans S.kT,?_,S.name,by show l.last+1<=N+1;omega,by show l.aj<=N+1;omega⟩,n,w4,by omega,by rw[w6,if_pos rfl],?_⟩
  ·intro m hm;obtain⟨h,e,hk⟩:=I.sin.has m hm;exact⟨h,by rw[w6,if_neg (ei _ h e)];exact e,hk⟩
  ·intro m h hm hk;rw[w6]at hm;split at hm
   ·injection hm with hm;rw[<-hm]at hk;rcases hk with hk|hk
    ·exact absurd hk (by show(1:Int)≠3;decide)
    ·exact absurd hk (by show(1:Int)≠4;decide)
   ·exact I.sin.Av m h hm hk
  ·intro e he;obtain⟨p,h,h1,h2,h3,h4⟩:=S.F4 e he;exact⟨p,h,h1,by rw[w6,if_neg (ei _ h h2)];exact h2,h3,h4⟩
  ·intro e he;obtain⟨p,h,h1,h2,h3,h4⟩:=S.F4 e he;rw[h1];exact ei _ h h2
 ·refine aE (aQ ⟨w1,⟨⟨es,bK,nps,q0,w2,⟨Q.cont,rfl,rfl,by rw[w3];exact I.sin.has,by rw[w3];exact I.sin.Av,I.sin.nd⟩,by rw[XE,Q.Z];exact acL fun m v hm hv=>aQ (w4 m v hm hv),I.pg,I.Iz,I.lA,I.len⟩,hg,Q.kT.trans S.kT,?_,S.name,by show l.last+1<=N+1;omega,by show l.aj<=N+1;omega⟩⟩);intro e he;rw[w3];exact S.F4 e he
 ·obtain⟨g1,g2⟩:=Q.cont.ja hg.1 hg.2.1 hg.2.2;have cz:=acL fun m v hm hv=>(w5 m v hm hv).imp id fun e=>e.2.2;rw[aoh,hZ,S.name]at cz;have hd':pP r.1 l.T:=fun e he=>by rw[w3];exact S.F4 e he
  exact aE (aE ⟨w1,w2,w4,Bi.of g1 g2 (Q.kT.trans S.kT) (fun _ _=>rfl) ⟨I.lA,I.len,_,_,_,_,_,_,_,cz,I.Iz.symm,by omega,by omega⟩ (hd'.ZU Q.cont (by rw[hg.1,hg.2.1]))⟩)
theorem ad4{g q0 last aj:Int}{es:List az}{bK:List Nat}{nps:List NP}(C:uA c 64 128 nm g es bK nps q0 last aj):nps.length<=64:=by
 have hn:=(List.nodup_append.1 (MK C)).2.1;have:=kD (nps.map (·.p)) (List.range 64) hn fun p hp=>by
  obtain⟨x,hx,rfl⟩:=List.mem_map.1 hp;exact List.mem_range.2 (C.nv x hx).1
 rwa[bY,fP]at this
theorem Bi.sm{P:List az->List Nat->Int->Prop}(D:Bi nm N P c):lH c.blocks.length c.P c.Z=true:=by
 rw[D.ja.1,D.ja.2.1,D.ja.2.2];decide
def Jv(l:LM)(s:SM):Prop:=∀(n:Nat) h,aq s.hs (n:Int)=some h->n∈l.ad∨((h.k≠3∧h.k≠4)∧∃e∈l.T,e.aW=(n:Int))
theorem Bi.load{P:List az->List Nat->Int->Prop}(D:Bi nm N P c)(fi:c.on=true)(h0:(bW c).2.2=0):
  ∃g es bK nps q0 last aj,iy (bW c).1 (bW c).2.1 nm g es bK nps q0 last aj∧Live (bW c).1 (bW c).2.1∧Reads c (bW c).2.1∧nps.length<=64∧dd (aI es (nps.map NP.ns).flatten)∧(aI es (nps.map NP.ns).flatten).length<=64∧P (aI es (nps.map NP.ns).flatten) (bK++nps.map NP.p) g∧
   ∀c3,Reads (bW c).2.1 c3->c3.on=true->gy nm N (P2 (bW c).1 nm g es bK nps) (Bv (bW c).1 (P2 (bW c).1 nm g es bK nps)) c3∧Jv (P2 (bW c).1 nm g es bK nps) (Bv (bW c).1 (P2 (bW c).1 nm g es bK nps)):=by
 obtain⟨b1,b2,b3⟩:=D.ja;obtain⟨T,g,es,bK,nps,q0,last,aj,C,hT,hR,ZV,hq,ht,hP,hD⟩:=D.st;subst hT;obtain⟨r1,r2⟩:=tA D.sm fi D.shape;rcases r2 with⟨e,_⟩|⟨_,r3,r4,_,r5,r6,r7,r8⟩
 ·omega
 generalize bW c=nw at*;obtain⟨t,c2,code⟩:=nw;dsimp only at*;have e1:t.B*t.P=64:=by rw[r5,r6,b1,b2]
 have e2:t.Z=128:=r7.trans b3;have eB:∀n:Nat,n<64->aq t.hs (n:Int)=(c.vN n).map (·.2):=by
  intro n hn;have:=r8 (n/4) (n%4) (by omega) (by omega);rw[b2,<-iF,nZ]at this;rw[this];unfold CM.vN;rw[b2]
 have hv:∀n,c2.vN n=c.vN n:=fun n=>by unfold CM.vN;rw[r1.ly,r1.P]
 have I:iy t c2 nm g es bK nps q0 last aj:=⟨r3,by rw[e1,e2];exact C.reads r1,fun n hn=>by rw[hv];exact eB n (by omega)⟩;refine⟨g,es,bK,nps,q0,last,aj,I,r4,r1,ad4 C,hR,ZV,hP,fun c3 Oc Uo=>?_⟩;have I3:=I.reads Oc;have On:=GQ I.cont C.l0 (by have:=C.g0;have:=C.gt;omega) (a:=last) (b:=aj) fun n x hx=>by
  obtain⟨m,e,hm,d,hd⟩:=I.cont.has hx;exact I.kX.le m d x hm hd
 have dN:z7 (P2 t nm g es bK nps) (Bv t (P2 t nm g es bK nps)) c3 es bK nps q0:=Wc I3 (Oc.live r4 Uo) rfl rfl rfl rfl rfl rfl hR ZV;have D2:=Cq I.cont (P2 t nm g es bK nps);refine⟨?_,fun n h hn=>?_⟩;rotate_left
 ·obtain⟨h1,h2⟩:=(wQ I.cont _).1 hn;unfold uG X5 du at h2;rw[h1]at h2;simp only[Option.getD_some,Bool.or_eq_false_iff,Bool.not_eq_false',Bool.and_eq_false_iff]at h2;obtain⟨h3,h4⟩:=h2;by_cases hp:(P2 t nm g es bK nps).ad.contains n=true
  ·exact aQ (List.contains_iff_mem.1 hp)
  ·right
   have hk:h.k≠3∧h.k≠4:=by
    rcases h4 with h4|h4
    ·obtain⟨a,b⟩:=h4;exact⟨of_decide_eq_false b,of_decide_eq_false a⟩
    ·exact absurd h4 hp
   refine⟨hk,?_⟩;unfold gS at h3;rw[Bool.or_eq_true]at h3;rcases h3 with h3|h3
   ·exact absurd h3 hp
   ·obtain⟨e,he,h5⟩:=List.any_eq_true.1 h3;exact⟨e,he,of_decide_eq_true h5⟩
 refine⟨⟨_,_,_,_,dN⟩,⟨D2.B.trans (r5.trans b1),D2.P.trans (r6.trans b2),D2.Z.trans e2⟩,(Oc.kT.trans r1.kT).trans D.kT,?_,rfl,by show eT t (aC t)<=N;omega,by show dp t (aC t)<=N;omega⟩;intro e he;obtain⟨p,d,h,a1,a2,a3,a4,a5⟩:=hD e he;have hl:aq t.hs (p:Int)=some h:=by rw[eB p a2,a3];rfl
 refine⟨p,h,a1,(wQ I.cont _).2 ⟨hl,?_⟩,a4,a5⟩;unfold uG gS X5 du;rw[hl];have h1:((P2 t nm g es bK nps).T.any fun e=>decide (e.aW=(p:Int)))=true:=List.any_eq_true.2 ⟨e,he,by simp[a1]⟩;rw[h1];simp[a4,a5]
end
end
section
variable{s s':SM}{c c':CM}{l:LM}{T T0:List az}
theorem AO{Z:Nat}:∀(eA:List (List Nt)) (l:LM) (s:SM) (c:CM),aV s c->Live s c->s.Z=Z->(∀ch∈eA,(NP.mk 0 0 ch).ok Z)->0<=l.last->l.last+eA.length<=1099511627775->0<=l.gen->l.gen<=16777215->
  c.ops<=(jI Z eA l s c).2.2.1.ops∧(jI Z eA l s c).2.2.1.ops<=c.ops+2400*eA.length
 |[],l,s,c,_,_,_,_,_,_,_,_=>⟨bG _,by show c.ops<=c.ops+2400*((0:Nat):Int);omega⟩
 |ch::eA,l,s,c,hC,hL,hZ,cj,h0,h1,h2,h3=>by
  have bm:(ch::eA).length=eA.length+1:=rfl;rw[bm]at h1;have cz:=cj ch dC;obtain⟨m1,m2⟩:=oP (q:=l.last+1) (g:=l.gen) (by omega) (by omega) h2 h3;have Q:=xU (d:=eX ch Z) hC hL m1 m2 (by rw[hZ];exact nY cz.2.2.1);have S:=jC hC (gA (l.last+1) l.gen) (eX ch Z);rw[jI,bm];generalize bn s c (gA (l.last+1) l.gen) (eX ch Z)=r at*;have kU:=S.2.2.2.2.1;have tg:=S.2.2.2.2.2;by_cases h:r.2.2.2=0
  ·rw[if_neg (by omega)];rcases Q.Bd with⟨_,w2,_⟩|⟨w1,_⟩|⟨w1,_⟩
   ·have ih:=AO eA {l with last:=l.last+1,ad:=l.ad++[r.2.2.1.toNat],T:=aI l.T ch} r.1 r.2.1 Q.cont w2 (Q.Z.trans hZ) (fun x hx=>cj x (fA _ hx)) (by show 0<=l.last+1;omega) (by show l.last+1+(eA.length:Int)<=_;omega) h2 h3;omega
   ·omega
   ·omega
  ·rw[if_pos h];dsimp only;omega
theorem FE:∀(bs:List (List UInt8)) (l:LM) (s:SM) (c:CM) (put:List Nat),aV s c->Live s c->(∀b∈bs,b.length=s.Z)->0<=l.last->l.last+bs.length<=1099511627775->0<=l.aj->l.aj<=16777215->
  c.ops<=(jg bs l s c put).2.2.1.ops∧(jg bs l s c put).2.2.1.ops<=c.ops+2400*bs.length
 |[],l,s,c,put,_,_,_,_,_,_,_=>⟨bG _,by show c.ops<=c.ops+2400*((0:Nat):Int);omega⟩
 |b::bs,l,s,c,put,hC,hL,hb,h0,h1,h2,h3=>by
  have bm:(b::bs).length=bs.length+1:=rfl;rw[bm]at h1;obtain⟨m1,m2⟩:=mz (q:=l.last+1) (g:=l.aj) (by omega) (by omega) h2 h3;have Q:=xU (d:=b) hC hL m1 m2 (hb b dC);have S:=jC hC (fh (l.last+1) l.aj) b;rw[jg,bm];generalize bn s c (fh (l.last+1) l.aj) b=r at*;have kU:=S.2.2.2.2.1;have tg:=S.2.2.2.2.2;by_cases h:r.2.2.2=0
  ·rw[if_neg (by omega)];rcases Q.Bd with⟨_,w2,_⟩|⟨w1,_⟩|⟨w1,_⟩
   ·have ih:=FE bs {l with last:=l.last+1} r.1 r.2.1 (put++[r.2.2.1.toNat]) Q.cont w2 (fun x hx=>by rw[Q.Z];exact hb x (fA _ hx)) (by show 0<=l.last+1;omega) (by show l.last+1+(bs.length:Int)<=_;omega) h2 h3;omega
   ·omega
   ·omega
  ·rw[if_pos h];dsimp only;omega
theorem R9(l:LM)(r:LM×SM×CM×List Nat×Int):(uh l r).2.2.1=r.2.2.1:=by
 unfold uh;split<;>rfl
section
variable{nm:List UInt8}{N:Int}
theorem gy.yO(S:gy nm N l s c)(hN:N<=1000000):c.ops<=(aH l s c).2.2.1.ops∧(aH l s c).2.2.1.ops<=c.ops+100000:=by
 obtain⟨es,bK,nps,q0,I⟩:=S.inv;have hZ:=S.ja.2.2;have hpz:=qD (Z:=s.Z) (by omega) I.len;have hl:=S.last;have ht:=S.aj;have C:=I.kX;have h0:=C.l0;have jD:=C.g0;have DL:=C.gt;have hlen:(lV s.Z l.name l.T).length=aM s.Z l.T.length:=by unfold lV;rw[bY,fP]
 unfold aH;rw[R9];have:=FE (lV s.Z l.name l.T) {l with aj:=l.aj+1} s c [] I.sin.cont I.live (fun b hb=>by
  unfold lV at hb;obtain⟨i,_,rfl⟩:=List.mem_map.1 hb;exact lh (by omega) (by omega) C.low l.T _) h0 (by show l.last+_<=_;omega) (by show 0<=l.aj+1;omega) (by show l.aj+1<=_;omega)
 omega
theorem gy.uW(S:gy nm N l s c)(hN:N<=1000000){ns:List Nt}(hlen:ns.length<=1000)(iu:∀n∈ns,n.vg∧n.ok=true):
  c.ops<=(jI s.Z (aO s.Z ns) l s c).2.2.1.ops∧(jI s.Z (aO s.Z ns) l s c).2.2.1.ops<=c.ops+2400*ns.length:=by
 obtain⟨es,bK,nps,q0,I⟩:=S.inv;have hZ:=S.ja.2.2;have hl:=S.last;have ht:=S.aj;have C:=I.kX;have h0:=C.l0;have jD:=C.g0;have DL:=C.gt;obtain⟨f1,f2⟩:=fN (Z:=s.Z) (by omega) ns.length ns (aN _);have:=AO (aO s.Z ns) l s c I.sin.cont I.live rfl (mF (by omega) ns.length ns (aN _) hlen iu) h0 (by omega) jD (by omega);omega
end
def aL(nm:List UInt8)(s:SM)(c:CM):LM×SM×CM×Int:=aH {kN s with name:=nm} (dI s (bc s)) c
theorem fO{nm:List UInt8}(hn:yZ nm)(hC:aV s c)(hL:Live s c)(hg:s.B=16∧s.P=4∧s.Z=128)(hm:c.bZ=0)(h0:∀n:Nat,n<64->c.vN n=none):
  bc s=[]∧kN s=⟨[],0,0,0,[],[]⟩∧(aL nm s c).2.2.1.ms=c.ms∧c.ops<=(aL nm s c).2.2.1.ops∧(aL nm s c).2.2.1.ops<=c.ops+2400∧
  (((aL nm s c).2.2.2=0∧gy nm 1 (aL nm s c).1 (aL nm s c).2.1 (aL nm s c).2.2.1∧(aL nm s c).1.T=[]∧(aL nm s c).1.ad.length=1∧(aL nm s c).1.gen=1)∨
   (aL nm s c).2.2.2=7∨((aL nm s c).2.2.2=4∧(∃m∈c.ms,m.kind=2))):=by
 have hN:s.B*s.P=64:=by rw[hg.1,hg.2.1]
 have lX:∀n:Int,aq s.hs n=none:=by
  intro n;cases h:aq s.hs n with
  |none=>rfl
  |some x=>
   obtain⟨m,_,hm,d,hd⟩:=hC.has h;rw[h0 m (by omega)]at hd;exact absurd hd (by simp)
 have e1:bc s=[]:=by
  unfold bc;rw[List.filter_eq_nil_iff];intro n _;unfold kW;rw[lX];simp
 have e2:kN s=⟨[],0,0,0,[],[]⟩:=by
  unfold kN;rw[cL hC,e1];rfl
 refine⟨e1,e2,?_⟩;unfold aL;rw[e1,e2];show _∧_;have e3:dI s []=s:=rfl;rw[e3];have e4:lV s.Z nm []=[cW s.Z nm [] 0]:=by
  rw[hg.2.2];rfl
 obtain⟨m1,m2⟩:=mz (q:=1) (g:=1) (by omega) (by omega) (by omega) (by omega);have Q:=xU (d:=cW s.Z nm [] 0) hC hL m1 m2 (lh (by omega) (by omega) hn [] _);have S:=jC hC (fh 1 1) (cW s.Z nm [] 0);unfold aH;dsimp only;rw[e4,jg];dsimp only;rw[show(0:Int)+1=1 from rfl];generalize bn s c (fh 1 1) (cW s.Z nm [] 0)=r at*;have kU:=S.2.2.2.2.1;have tg:=S.2.2.2.2.2;unfold uh;rcases Q.Bd with⟨w1,w2,n,w3,w4,w5,w6,w7,w8⟩|⟨w1,w2,w3,w4⟩|⟨w1,w2,w3,w4,n,w5⟩
 ·have w1':¬(r.2.2.2≠0):=by omega
  rw[if_neg w1',jg];dsimp only;rw[if_neg (show¬((0:Int)≠0) by omega),w4];refine⟨Q.ms,kU,tg,aQ ⟨rfl,?_,rfl,rfl,rfl⟩⟩;have hvo:∀(m:Nat) v,m<64->r.2.1.vN m=some v->m=n:=fun m v hm hv=>by
   rcases w8 m v (by omega) hv with e|e
   ·exact e
   ·rw[h0 m hm]at e;exact absurd e (by simp)
  have Oz:∀(m:Nat) d x,m<64->r.2.1.vN m=some (d,x)->m=n∧x=fh 1 1:=fun m d x hm hv=>by
   obtain rfl:=hvo m _ hm hv;rw[w7]at hv;injection hv with hv;injection hv with _ hv;exact⟨rfl,hv.symm⟩
  have hB:r.1.B=16∧r.1.P=4∧r.1.Z=128:=⟨Q.B.trans hg.1,Q.P.trans hg.2.1,Q.Z.trans hg.2.2⟩;have Dj:r.1.B*r.1.P=64:=by rw[hB.1,hB.2.1]
  have en:((n:Nat):Int).toNat=n:=by omega
  rw[jS,en];refine⟨⟨[],[n],[],1,w2,⟨Q.cont,rfl,rfl,?_,?_,by simp⟩,?_,rfl,rfl,tE,by show([]:List az).length<=64;simp⟩,hB,Q.kT.trans hm,pP.nil _,rfl,bG _,bG _⟩
  ·intro m hm;rw[List.mem_singleton.1 hm];exact⟨fh 1 1,(by show aq r.1.hs (n:Int)=_;rw[w6,if_pos rfl]),aE rfl⟩
  ·intro m h hx hk;have hx:aq r.1.hs m=some h:=hx;rw[w6]at hx;split at hx
   ·next e=>exact⟨n,by simp,e⟩
   ·rw[lX]at hx;exact absurd hx (by simp)
  ·show uA r.2.1 (r.1.B*r.1.P) r.1.Z nm 1 [] [n] [] 1 1 1;rw[Dj,hB.2.2];refine⟨hn,tE,by simp,rfl,?_,fun x hx=>absurd hx (by simp),List.Pairwise.nil,?_,?_,?_,?_,by show(0:Int)<=1;omega,bG _,by show(0:Int)<=1;omega⟩
   ·intro i hi;have tI:i=0:=by simp at hi;exact hi
    subst tI;refine⟨by show n<64;omega,?_⟩;show r.2.1.vN n=_;rw[w7,hg.2.2];rfl
   ·intro m d x hm hv _ _;rw[(Oz m d x hm hv).1];simp
   ·intro m d x hm hv hk _;rw[(Oz m d x hm hv).2]at hk;exact absurd hk (by show(4:Int)≠3;decide)
   ·intro g' nD;refine ZK.none hn fun m d x hm hv _ hk=>?_;rw[(Oz m d x hm hv).2]at hk;have h1:(1:Int)=g':=hk;have h2:(1:Int)<g':=nD;omega
   ·intro m d x hm hv;rw[(Oz m d x hm hv).2];exact⟨bG _,bG _⟩
 ·have w1':r.2.2.2≠0:=by omega
  rw[if_pos w1'];dsimp only;rw[if_pos w1'];exact⟨Q.ms,kU,tg,aE (aQ w1)⟩
 ·have w1':r.2.2.2≠0:=by omega
  rw[if_pos w1'];dsimp only;rw[if_pos w1'];exact⟨Q.ms,kU,tg,aE (aE ⟨w1,w4⟩)⟩
end
end Go.Proofs.YtalnifciidblkaaGreatDoor
