/-
  Lemmas.
-/
import Derived.Test.YtalnifciidblkaaGreatDoorG24
import Derived.Test.YtalnifciidblkaaGreatDoorG16
import Derived.Test.YtalnifciidblkaaGreatDoorG29
import Derived.Test.YtalnifciidblkaaGreatDoorG02
import Derived.Test.YtalnifciidblkaaGreatDoorG25
import Derived.Test.YtalnifciidblkaaGreatDoorG20
import Derived.Laws.ResultCell
namespace Go.Proofs.YtalnifciidblkaaGreatDoor
open _root_.Go.Proofs.Tryz
open Go.RowKit
set_option linter.unusedSimpArgs false
set_option linter.unusedVariables false
set_option maxRecDepth 20000
set_option maxHeartbeats 1000000
section
variable{s s':SM}{c c':CM}
structure oJ(s:SM)(c:CM)(d:List UInt8)(h:Hd)(r:SM×CM×Int×Int):Prop where
 B:r.1.B=s.B
 P:r.1.P=s.P
 Z:r.1.Z=s.Z
 kT:r.2.1.bZ=c.bZ
 ms:r.2.1.ms=c.ms
 cont:aV r.1 r.2.1
 keep:∀(j q:Nat) (g:Hd),j<s.B->q<s.P->aq s.hs ((j:Int)*s.P+q)=some g->r.2.1.ly j q=c.ly j q
 Bd:(r.2.2.2=0∧Live r.1 r.2.1∧∃k p:Nat,k<s.B∧p<s.P∧r.2.2.1=(k:Int)*s.P+p∧aq s.hs ((k:Int)*s.P+p)=none∧r.1.hs=pN s.hs ((k:Int)*s.P+p) h∧r.1.op=k∧r.2.1.ly k p=some (d,h)∧
   ∀(j q:Nat) v,r.2.1.ly j q=some v->(j=k∧q=p)∨c.ly j q=some v)∨
  (r.2.2.2=7∧Live r.1 r.2.1∧r.1.hs=s.hs∧∀(j q:Nat) v,r.2.1.ly j q=some v->c.ly j q=some v)∨
  (r.2.2.2=4∧r.2.1.on=false∧r.1.hs=s.hs∧(∃m∈c.ms,m.kind=2)∧∀(j q:Nat) v,r.2.1.ly j q=some v->c.ly j q=some v∨(j<s.B∧q<s.P∧aq s.hs ((j:Int)*s.P+q)=none∧v=(d,h)))
 one:r.2.2.2=4->∃k p:Nat,∀(j q:Nat) v,r.2.1.ly j q=some v->c.ly j q=some v∨(j=k∧q=p)
theorem oJ.before{d:List UInt8}{h:Hd}{r:SM×CM×Int×Int}(st:cK s c s' c')(g:oJ s' c' d h r):oJ s c d h r:=by
 refine⟨g.B.trans st.B,g.P.trans st.P,g.Z.trans st.Z,g.kT.trans st.kT,g.ms.trans st.ms,g.cont,?_,?_,fun e=>by obtain⟨k,p,h⟩:=g.one e;exact⟨k,p,fun j q v hv=>(h j q v hv).imp (st.old j q v) id⟩⟩
 ·intro j q x hj hq hl;rw[g.keep j q x (by rw[st.B];exact hj) (by rw[st.P];exact hq) (by rw[st.hs,st.P];exact hl),st.keep j q x hj hq hl]
 ·have hw:=g.Bd;rw[st.B,st.P,st.hs,st.ms]at hw;rcases hw with⟨h1,h2,k,p,h3,h4,h5,h6,h7,h8,h9,Xe⟩|⟨h1,h2,h3,h4⟩|⟨h1,h2,h3,h4,h5⟩
  ·exact aQ ⟨h1,h2,k,p,h3,h4,h5,h6,h7,h8,h9,fun j q v hv=>(Xe j q v hv).imp id (st.old j q v)⟩
  ·exact aE (aQ ⟨h1,h2,h3,fun j q v hv=>st.old j q v (h4 j q v hv)⟩)
  ·exact aE (aE ⟨h1,h2,h3,h4,fun j q v hv=>(h5 j q v hv).imp (st.old j q v) id⟩)
theorem uB.anC{hs:List (Int×Hd)}(h:uB hs){a:Int}(x:Hd)(h0:0<=a)(h1:a<=1000000)(hn:aq hs a=none):uB (pN hs a x):=by
 rw[EZ x hn];refine⟨?_,?_⟩
 ·rw[dm,List.nodup_append];refine⟨h.nodup,by simp,?_⟩;intro b hb d hd e;subst e;have hd':b=a:=by simpa using hd
  subst hd';obtain⟨⟨b2,y⟩,hm,rfl⟩:=List.mem_map.1 hb;have:aq hs b2≠none:=by
   clear h hn hb hd h0 h1
   induction hs with
   |nil=>exact absurd hm (by simp)
   |cons q t ih=>
    obtain⟨b3,y3⟩:=q;rw[iH];split
    ·simp
    ·next ei=>
     rcases List.mem_cons.1 hm with h|h
     ·injection h with h1 h2;exact absurd h1.symm ei
     ·exact ih h
  exact this hn
 ·intro q hq;rcases List.mem_append.1 hq with h2|h2
  ·exact h.rng q h2
  ·rw[List.mem_singleton.1 h2];exact⟨h0,h1⟩
theorem Vi(hC:aV s c){k p:Nat}(hk:k<s.B)(hp:p<s.P):0<=(k:Int)*s.P+p∧(k:Int)*s.P+p<=1000000:=by
 have ik:=bO hC.pl;have:=MC (b:=(k:Int)) (B:=s.B) (P:=s.P) (by omega) (by omega) (by omega) (by omega) (by omega);omega
theorem E9(hC:aV s c){k p:Nat}{x:CB}{z:YB}{h:Hd}{d:List UInt8}(hx:c.blocks[k]?=some x)(hz:s.y[k]?=some z)(hp:p<s.P)(ht:(p:Int)<z.taken)(hl:aq s.hs ((k:Int)*s.P+p)=none)(hv:c.ly k p=some (d,h)):
  aV (oC s k p h) c∧(∀j:Nat,∃f:YB->YB,(∀z,(f z).state=z.state∧(f z).taken=z.taken)∧(oC s k p h).y[j]?=(s.y[j]?).map f):=by
 have hk:k<s.B:=by rw[<-hC.B];exact(List.getElem?_eq_some_iff.1 hx).1
 have hky:=(List.getElem?_eq_some_iff.1 hz).1;have Dm:=(hC.vu z (gD hz)).1;have hb:=hC.bit k z p hz hp;rw[hl]at hb;have ik:p<z.ad.length:=by omega
 have hy:(oC s k p h).y=s.y.set k {z with ad:=z.ad.set p (true,decide (h.k=1))}:=by
  show(oB s.y k p (decide (h.k=1))).1=_;unfold oB IQ;rw[lM,hz];dsimp only;rw[if_pos ⟨by omega,by omega⟩];dsimp only;rw[Int.toNat_natCast,if_neg (by
   rintro(h1|h1)
   ·omega
   ·rw[hb]at h1;exact absurd h1 (by decide))]
  unfold ug lB;rw[Int.toNat_natCast,Int.toNat_natCast]
 have XW:=Vi hC hk hp;have nV:∀n,aq (pN s.hs ((k:Int)*s.P+p) h) n=if n=(k:Int)*s.P+p then some h else aq s.hs n:=fun n=>lg h n hl;refine⟨⟨hC.B,hC.P,hC.Z,hC.pl,?_,?_,hC.wf.anC h XW.1 XW.2 hl,hC.Bc,?_,?_,?_,hC.shape⟩,?_⟩
 ·rw[hy,k5];exact hC.yl
 ·intro w hw;rw[hy]at hw;rcases vM hw with h1|h1
  ·exact hC.vu w h1
  ·rw[h1];exact⟨by show(z.ad.set p _).length=s.P;rw[k5];exact Dm,(hC.vu z (gD hz)).2⟩
 ·intro n g hg;have nD:aq (pN s.hs ((k:Int)*s.P+p) h) n=some g:=hg;rw[nV]at nD;split at nD
  ·next e=>exact⟨k,p,hk,hp,e⟩
  ·exact hC.keys n g nD
 ·intro j w q hw hq;show _=(aq (pN s.hs ((k:Int)*s.P+p) h) ((j:Int)*s.P+q)).isSome;rw[nV];rw[hy,dx _ _ _ _ hky]at hw;have PU:q<s.P:=hq;by_cases e:k=j
  ·subst e;rw[if_pos rfl]at hw;injection hw with hw;subst hw;show((z.ad.set p (true,decide (h.k=1))).getD q (false,false)).1=_;rw[jR,dx _ _ _ _ ik];by_cases e2:p=q
   ·subst e2;rw[if_pos rfl,if_pos rfl];rfl
   ·rw[if_neg e2,if_neg (fun e3=>e2 (key_inj PU hp e3).2.symm),<-jR];exact hC.bit k z q hz PU
  ·rw[if_neg e]at hw;rw[if_neg (fun e3=>e (key_inj PU hp e3).1.symm)];exact hC.bit j w q hw PU
 ·intro j q g hj hq hg;have nD:aq (pN s.hs ((k:Int)*s.P+p) h) ((j:Int)*s.P+q)=some g:=hg;rw[nV]at nD;split at nD
  ·next e=>
   injection nD with nD;obtain⟨rfl,rfl⟩:=key_inj hq hp e;rw[<-nD];exact⟨d,hv⟩
  ·exact hC.aW j q g hj hq nD
 ·intro j;rw[hy,dx _ _ _ _ hky];by_cases e:k=j
  ·subst e;exact⟨fun w=>{w with ad:=w.ad.set p (true,decide (h.k=1))},fun _=>⟨rfl,rfl⟩,by rw[if_pos rfl,hz];rfl⟩
  ·refine⟨id,fun _=>⟨rfl,rfl⟩,?_⟩;rw[if_neg e];cases s.y[j]? <;>rfl
theorem Rf{h:Hd}{d:List UInt8}(hl:(gC d h).length=s.Z+28)(hr:fE (gC d h)=some (d,h))(n:Nat):∀(s':SM) (c:CM),s'.Z=s.Z->aV s' c->Live s' c->c.tV<n->oJ s' c d h (xQ h (gC d h) n s' c):=by
 induction n with
 |zero=>intro _ _ _ _ _ hn;omega
 |succ n ih=>
  intro s0 c0 hZ0 pK rT hn;rw[xQ];obtain⟨t1,t2⟩:=M8 pK rT;have PN:=(yF s0 c0).2.2.1;generalize eE s0 c0=r at t1 t2 PN;obtain⟨s1,c1,code⟩:=r;dsimp only at t1 t2 PN⊢;rcases t2 with⟨h0,hL,k,x,hk,ho,hx,Dr⟩|⟨h7,hL,_⟩|⟨h4,L5,hm⟩
  ·rw[if_neg (by omega)];have hC:=t1.cont;have LL:s1.Z=s.Z:=t1.Z.trans hZ0;refine oJ.before t1 ?_;obtain⟨x',p,hxp,LG,Ln,hb,yU,ahd,Ax,Ss,gP,gZ,Xw,Mf,T6,kg,mM⟩:=E8 hC hL ho hx Dr (by rw[LL];exact hl) hr;have Sw:=yE c1 s1.op (bX s1.y s1.op).2.1 (gC d h);generalize hq:fQ c1 s1.op (bX s1.y s1.op).2.1 (gC d h)=q at hb gP gZ Xw Mf T6 mM Sw;obtain⟨c2,qc⟩:=q;dsimp only at hb gP gZ Xw Mf T6 mM Sw;have hi:=(List.getElem?_eq_some_iff.1 hx).1;have qN:c2.blocks[k]?=some x':=by rw[hb,dx _ _ _ _ hi,if_pos rfl]
   obtain⟨z,hz,Dm,LI⟩:=hC.Gh hk;obtain⟨os,ot,om⟩:=hL.LR k x z hx hz ho;have Ls:=hC.OS (p:=p) hx LG (by omega);have WI:∀q g,q<s1.P->aq s1.hs ((k:Int)*s1.P+q)=some g->sd x' q=sd x q:=by
    intro q g hq hg;refine kg q fun e=>?_;rw[e,Ls.1]at hg;exact absurd hg (by simp)
   have Dw:=E5 s1.y k;rw[<-ho]at Dw;have stN:cK s1 c1 (bL s1 s1.op) c1:=cK.Br hC Dw zy rfl rfl rfl rfl hC.Bc (yz _ _) (hC.vu.next _);have hzN:(bL s1 s1.op).y[k]?=some {z with taken:=z.taken+1}:=by
    have:=Dw k;rw[ho]at this;show(bX s1.y s1.op).1[k]?=_;rw[ho,this,if_pos rfl,hz,kt];unfold ze;rw[if_neg (by simp[os]),if_neg (by omega)]
   have hzJ:∀j:Nat,k≠j->(bL s1 s1.op).y[j]?=s1.y[j]?:=by
    intro j hj;have:=Dw j;rw[ho]at this;show(bX s1.y s1.op).1[j]?=_;rw[ho,this,if_neg hj]
   have ach:∀(j q:Nat) (g:Hd),j<s1.B->q<s1.P->aq s1.hs ((j:Int)*s1.P+q)=some g->c2.ly j q=c1.ly j q:=by
    intro j q g hj hq hg;rw[wB hb hi];by_cases e:k=j
    ·subst e;rw[if_pos rfl,j8 hx];exact WI q g hq hg
    ·rw[if_neg e]
   have hold:∀(j q:Nat) v,c2.ly j q=some v->(j=k∧q=p)∨c1.ly j q=some v:=by
    intro j q v hv;rw[wB hb hi]at hv;by_cases e:k=j
    ·subst e;rw[if_pos rfl]at hv;by_cases e2:q=p
     ·exact aQ ⟨rfl,e2⟩
     ·rw[kg q e2,<-j8 hx]at hv;exact aE hv
    ·rw[if_neg e]at hv;exact aE hv
   have Wv:aV (bL s1 s1.op) c2:=by
    have:=stN.cont.uK (c':=c2) hx hb gP gZ Ax (fun q g hq hg=>WI q g hq hg);exact this
   have WH:c2.on=true->Live (bL s1 s1.op) c2:=by
    intro fi;refine⟨fi,?_,?_⟩
    ·intro j xj zj a1 a2 a3;have qE:k=j:=by have:s1.op=(j:Int):=a3;omega
     subst qE;rw[qN]at a1;injection a1 with a1;rw[hzN]at a2;injection a2 with a2;rw[<-a1,<-a2];exact⟨os,by show z.taken+1=x'.next;rw[ahd,ot],yU⟩
    ·intro j xj zj a1 a2 a3 a4;have qE:k≠j:=fun e=>a3 (by show s1.op=_;omega);rw[hzJ j qE]at a2;rw[hb,dx _ _ _ _ hi,if_neg qE]at a1;exact hL.Av j xj zj a1 a2 (fun e=>a3 e) a4
   unfold DW;dsimp only;rw[Ln];rcases mM with⟨q0,q1,q2,q3⟩|⟨q0,q1,q2,q3⟩|⟨q0,q1,q2,q3,q4⟩
   ·
    rw[if_pos q0];have hv:c2.ly k p=some (d,h):=by rw[j8 qN];exact q2
    obtain⟨kc,ky⟩:=E9 (s:=bL s1 s1.op) Wv qN hzN LG (by show(p:Int)<z.taken+1;omega) Ls.1 hv;rw[<-ho]at kc ky;refine⟨rfl,rfl,rfl,Mf,Xw,kc,ach,aQ ⟨rfl,⟨q1,?_,?_⟩,k,p,hk,LG,by show s1.op*s1.P+p=_;rw[ho],Ls.1,by show pN s1.hs (s1.op*s1.P+p) h=_;rw[ho],ho,hv,hold⟩,fun e=>absurd (show(0:Int)=4 from e) (by decide)⟩
    ·intro j xj zj a1 a2 a3;obtain⟨f,f1,f2⟩:=ky j;rw[f2]at a2;cases hzj:(bL s1 s1.op).y[j]? with
     |none=>rw[hzj]at a2;exact absurd a2 (by simp)
     |some w=>
      rw[hzj,kt]at a2;injection a2 with a2;rw[<-a2,(f1 w).1,(f1 w).2];exact(WH q1).LR j xj w a1 hzj a3
    ·intro j xj zj a1 a2 a3 a4;obtain⟨f,f1,f2⟩:=ky j;rw[f2]at a2;cases hzj:(bL s1 s1.op).y[j]? with
     |none=>rw[hzj]at a2;exact absurd a2 (by simp)
     |some w=>
      rw[hzj,kt]at a2;injection a2 with a2;rw[<-a2,(f1 w).1];exact(WH q1).Av j xj w a1 hzj a3 a4
   ·
    rw[if_neg (by omega),if_neg (by omega)];refine⟨rfl,rfl,rfl,Mf,Xw,Wv,ach,aE (aE ⟨q0,q1,rfl,GA q3 (by decide),?_⟩),fun _=>⟨k,p,fun j q v hv=>(hold j q v hv).symm⟩⟩;intro j q v hv;rcases hold j q v hv with⟨rfl,rfl⟩|h1
    ·rw[j8 qN]at hv;rcases q2 with e|e
     ·rw[e]at hv;exact absurd hv (by simp)
     ·rw[e]at hv;injection hv with hv;exact aE ⟨hk,LG,Ls.1,hv.symm⟩
    ·exact aQ h1
   ·
    rw[if_neg (by omega),if_pos q0];have aak:cK s1 c1 (bL s1 s1.op) c2:=by
     refine⟨rfl,rfl,rfl,rfl,Mf,Xw,ach,?_,Wv⟩;intro j q v hv;rcases hold j q v hv with⟨rfl,rfl⟩|h1
     ·rw[j8 qN,q2]at hv;exact absurd hv (by simp)
     ·exact h1
    obtain⟨g1,g2,g3,g4⟩:=E7 Wv (WH q1) qN;have gcn:=tz (bL s1 s1.op) c2 (k:Int);rw[ho]at g1 g2 g3 g4 gcn aak Sw⊢;have eB:=aak.trans g1;rcases g4 with⟨w1,w2,w3,w4⟩|⟨w1,w2,w3⟩
    ·rw[if_neg (by omega)];refine oJ.before eB (ih _ _ (eB.Z.trans LL) eB.cont w2 ?_);obtain⟨xx,hxx,AR⟩:=Sw.2 q0;have:=gcn.2 w1 xx hxx AR;omega
    ·rw[if_pos (by omega)];refine⟨eB.B,eB.P,eB.Z,eB.kT,eB.ms,eB.cont,eB.keep,aE (aE ⟨w1,w2,eB.hs,?_,fun j q v hv=>aQ (eB.old j q v hv)⟩),fun _=>⟨0,0,fun j q v hv=>aQ (eB.old j q v hv)⟩⟩;obtain⟨m,m1,m2⟩:=GA w3 (by decide);exact⟨m,by rw[<-Xw];exact m1,m2⟩
  ·rw[if_pos (by omega)];exact⟨t1.B,t1.P,t1.Z,t1.kT,t1.ms,t1.cont,t1.keep,aE (aQ ⟨h7,hL,t1.hs,t1.old⟩),fun e=>absurd (h7.symm.trans e) (by decide)⟩
  ·rw[if_pos (by omega)];exact⟨t1.B,t1.P,t1.Z,t1.kT,t1.ms,t1.cont,t1.keep,aE (aE ⟨h4,L5,t1.hs,hm,fun j q v hv=>aQ (t1.old j q v hv)⟩),fun _=>⟨0,0,fun j q v hv=>aQ (t1.old j q v hv)⟩⟩
theorem Fa{h:Hd}{d:List UInt8}(hC:aV s c)(hL:Live s c)(hm:h.may=true)(hi:zW h)(hd:d.length=s.Z):oJ s c d h (bn s c h d):=by
 have ik:=bO hC.pl;have fT:sizedB d.length=true:=by
  unfold sizedB;rw[hd];simp;omega
 unfold bn;rw[if_neg (by rw[fT,hm];simp[hd]),if_neg (by rw[hL.on];simp)];exact Rf (s:=s) (by rw[sI,hd]) (EY d h fT hm hi) _ s c rfl hC hL (by omega)
end
section
variable{s s':SM}{c c':CM}
theorem ajb{k:Int}(h:c.mi.kind=k)(hk:k≠0):∃m∈c.ms,m.kind=k∧m.at_=c.ops+1:=by
 unfold CM.mi zS at h;cases e:List.find? (fun m=>decide (m.at_=c.ops+1)) c.ms with
 |none=>rw[e]at h;exact absurd h.symm hk
 |some m=>
  rw[e]at h;have:=List.find?_some e;exact⟨m,List.mem_of_find?_eq_some e,h,by simpa using this⟩
structure Reads(c c':CM):Prop where
 blocks:c'.blocks=c.blocks
 P:c'.P=c.P
 Z:c'.Z=c.Z
 ms:c'.ms=c.ms
 kT:c'.bZ=c.bZ
 ops:c.ops<=c'.ops
theorem Reads.refl(c:CM):Reads c c:=⟨rfl,rfl,rfl,rfl,rfl,bG _⟩
theorem Reads.trans{c1 c2 c3:CM}(h:Reads c1 c2)(g:Reads c2 c3):Reads c1 c3:=⟨g.blocks.trans h.blocks,g.P.trans h.P,g.Z.trans h.Z,g.ms.trans h.ms,g.kT.trans h.kT,Int.le_trans h.ops g.ops⟩
def jx(c c':CM):Prop:=c'.on=false∧∃m∈c.ms,m.kind=2∧c.ops<m.at_∧m.at_<=c'.ops
theorem jx.before{c1 c2 c3:CM}(h:Reads c1 c2)(g:jx c2 c3):jx c1 c3:=by
 obtain⟨g1,m,g2,g3,g4,g5⟩:=g;exact⟨g1,m,by rw[<-h.ms];exact g2,g3,by have:=h.ops;omega,g5⟩
theorem Fb(hC:aV s c)(fi:c.on=true){k p:Nat}{x:CB}(hx:c.blocks[k]?=some x)(hp:p<s.P):
  Reads c (c.read k p).1∧(((c.read k p).2.2=0∧(c.read k p).1.on=true∧fE (c.read k p).2.1=sd x p)∨((c.read k p).2.2=4∧jx c (c.read k p).1)):=by
 have hk:k<c.blocks.length:=(List.getElem?_eq_some_iff.1 hx).1;have kg:c.Ey k p=true:=by
  unfold CM.Ey CM.there;have h1:decide (0<=(k:Int)∧(k:Int)<(c.blocks.length:Int))=true:=decide_eq_true ⟨by omega,by omega⟩;have h2:decide (0<=(p:Int)∧(p:Int)<=(c.P:Int)-1)=true:=decide_eq_true ⟨by omega,by rw[hC.P];omega⟩;rw[h1,h2];rfl
 have e:c.read k p=if c.mi.kind=2 then({c with ops:=c.ops+1,on:=false},[],4)else({c with ops:=c.ops+1},c.pS k p,0):=by
  unfold CM.read;rw[kg,Gz fi];dsimp only;rw[if_neg (by simp)]
 rw[e];by_cases k2:c.mi.kind=2
 ·rw[if_pos k2];refine⟨⟨rfl,rfl,rfl,rfl,rfl,by show c.ops<=c.ops+1;omega⟩,aE ⟨rfl,rfl,?_⟩⟩;obtain⟨m,m1,m2,m3⟩:=ajb k2 (by decide);exact⟨m,m1,m2,by omega,by show m.at_<=c.ops+1;omega⟩
 ·rw[if_neg k2];refine⟨⟨rfl,rfl,rfl,rfl,rfl,by show c.ops<=c.ops+1;omega⟩,aQ ⟨rfl,fi,?_⟩⟩;show fE (c.pS k p)=_;have hl:=(hC.shape k x hx).1;unfold CM.pS sd;rw[qW,hx];dsimp only;rw[Int.toNat_natCast,jR,bF (by omega)];first|done|rfl
theorem aV.reads(h:aV s c)(g:Reads c c'):aV s c':=h.same g.blocks g.P g.Z
theorem Reads.ly(g:Reads c c')(k p:Nat):c'.ly k p=c.ly k p:=oM g.blocks k p
theorem M9{k:Nat}{x:CB}(n:Nat):∀(i:Nat) (s:SM) (c:CM) (z:YB),aV s c->c.on=true->c.blocks[k]?=some x->s.y[k]?=some z->z.state=2->z.taken=i->i+n<=s.P->(∀q,i<=q->q<s.P->aq s.hs ((k:Int)*s.P+q)=none)->
  Reads c (eW n s c k).2.1∧(((eW n s c k).2.2=4∧jx c (eW n s c k).2.1)∨
   ((eW n s c k).2.2=0∧(eW n s c k).2.1.on=true∧aV (eW n s c k).1 (eW n s c k).2.1∧(eW n s c k).1.B=s.B∧(eW n s c k).1.P=s.P∧(eW n s c k).1.Z=s.Z∧(eW n s c k).1.op=s.op∧
    (∃z',(eW n s c k).1.y[k]?=some z'∧z'.state=2)∧(∀j:Nat,j≠k->((eW n s c k).1.y[j]?).map (·.state)=(s.y[j]?).map (·.state))∧
    ∀j q:Nat,q<s.P->aq (eW n s c k).1.hs ((j:Int)*s.P+q)=if j=k∧i<=q∧q<i+n then(c.ly j q).map (·.2)else aq s.hs ((j:Int)*s.P+q))):=by
 induction n with
 |zero=>
  intro i s c z hC fi hx hz bD ht hi lX;refine⟨Reads.refl c,aE ⟨rfl,fi,hC,rfl,rfl,rfl,rfl,⟨z,hz,bD⟩,fun _ _=>rfl,fun j q _=>?_⟩⟩;rw[if_neg (by omega)];rfl
 |succ n ih=>
  intro i s c z hC fi hx hz bD ht hi lX;have Dm:=(hC.vu z (gD hz)).1;have hk:k<s.B:=by rw[<-hC.B];exact(List.getElem?_eq_some_iff.1 hx).1
  have Ln:(bX s.y (k:Int)).2.1=(i:Int):=by
   unfold bX;rw[lM,hz];dsimp only;rw[if_neg (by simp[bD]),if_neg (by omega)];exact ht
  have Dw:=E5 s.y k;have hzN:(bL s k).y[k]?=some {z with taken:=z.taken+1}:=by
   show(bX s.y k).1[k]?=_;rw[Dw k,if_pos rfl,hz,kt];unfold ze;rw[if_neg (by simp[bD]),if_neg (by omega)]
  have hzJ:∀j:Nat,j≠k->(bL s k).y[j]?=s.y[j]?:=by
   intro j hj;show(bX s.y k).1[j]?=_;rw[Dw j,if_neg (Ne.symm hj)]
  have hCN:aV (bL s k) c:=hC.Br Dw zy rfl rfl rfl rfl hC.Bc (yz _ _) (hC.vu.next _);obtain⟨r1,r2⟩:=Fb hC fi hx (p:=i) (by omega);rw[eW,Ln];rcases r2 with⟨q0,q1,q2⟩|⟨q0,q1⟩
  ·rw[if_neg (by omega)];have th:(c.read k i).1.blocks[k]?=some x:=by rw[r1.blocks];exact hx
   rw[q2];have hvx:=j8 hx i;cases hv:sd x i with
   |none=>
    dsimp only;have:=ih (i+1) (bL s k) (c.read k i).1 _ (hCN.reads r1) q1 th hzN bD (by show z.taken+1=_;omega) (by show i+1+n<=s.P;omega) (fun q h1 h2=>lX q (by omega) h2);obtain⟨g1,g2⟩:=this;refine⟨r1.trans g1,?_⟩;rcases g2 with⟨a0,a1⟩|⟨a0,a1,a2,a3,a4,a5,a6,a7,a8,a9⟩
    ·exact aQ ⟨a0,a1.before r1⟩
    ·refine aE ⟨a0,a1,a2,a3,a4,a5,a6,a7,fun j hj=>by rw[a8 j hj,hzJ j hj],fun j q hq=>?_⟩;have:=a9 j q hq;refine this.trans ?_;rw[r1.ly];by_cases e:j=k∧i<=q∧q<i+(n+1)
     ·rw[if_pos e];obtain⟨rfl,e2,e3⟩:=e;by_cases e4:q=i
      ·subst e4;rw[if_neg (by omega),hvx,hv];exact lX q (aN _) (by omega)
      ·rw[if_pos ⟨rfl,by omega,by omega⟩]
     ·rw[if_neg e,if_neg (by omega)];rfl
   |some v=>
    obtain⟨d,h⟩:=v;dsimp only;have hlN:aq (bL s k).hs ((k:Int)*(bL s k).P+i)=none:=lX i (aN _) (by omega);have mg:(c.read k i).1.ly k i=some (d,h):=by rw[r1.ly,hvx,hv]
    obtain⟨kc,ky⟩:=E9 (s:=bL s k) (p:=i) (h:=h) (hCN.reads r1) th hzN (by show i<s.P;omega) (by show(i:Int)<z.taken+1;omega) hlN mg;obtain⟨f,f1,f2⟩:=ky k;rw[hzN,kt]at f2;have nV:∀m,aq (oC (bL s k) k i h).hs m=if m=(k:Int)*s.P+i then some h else aq s.hs m:=fun m=>lg h m hlN;have:=ih (i+1) (oC (bL s k) k i h) (c.read k i).1 _ kc q1 th f2 (by rw[(f1 _).1];exact bD) (by rw[(f1 _).2];show z.taken+1=_;omega) (by show i+1+n<=s.P;omega) (fun q h1 h2=>by
     rw[nV];have Tt:q<s.P:=h2;rw[if_neg (fun e=>by have:=(key_inj Tt (by omega) e).2;omega)];exact lX q (by omega) h2)
    obtain⟨g1,g2⟩:=this;refine⟨r1.trans g1,?_⟩;rcases g2 with⟨a0,a1⟩|⟨a0,a1,a2,a3,a4,a5,a6,a7,a8,a9⟩
    ·exact aQ ⟨a0,a1.before r1⟩
    ·refine aE ⟨a0,a1,a2,a3,a4,a5,a6,a7,fun j hj=>?_,fun j q hq=>?_⟩
     ·rw[a8 j hj];obtain⟨f',f1',f2'⟩:=ky j;rw[f2',hzJ j hj,Option.map_map];congr 1;funext w;exact(f1' w).1
     ·have:=a9 j q hq;refine this.trans ?_;rw[r1.ly];have ahe:=nV ((j:Int)*s.P+q);by_cases e:j=k∧i<=q∧q<i+(n+1)
      ·rw[if_pos e];obtain⟨rfl,e2,e3⟩:=e;by_cases e4:q=i
       ·subst e4;rw[if_neg (by omega),hvx,hv];refine ahe.trans ?_;rw[if_pos rfl];rfl
       ·rw[if_pos ⟨rfl,by omega,by omega⟩]
      ·rw[if_neg e,if_neg (by omega)];refine ahe.trans ?_;rw[if_neg];intro e2;obtain⟨e3,e4⟩:=key_inj hq (by omega) e2;exact e ⟨e3,by omega,by omega⟩
  ·rw[if_pos (by omega)];exact⟨r1,aQ ⟨q0,q1⟩⟩
structure Part(s:SM)(c:CM)(k:Nat):Prop where
 cont:aV s c
 on:c.on=true
 op:s.op=-1
 lo:∀j q:Nat,j<k->j<s.B->q<s.P->aq s.hs ((j:Int)*s.P+q)=(c.ly j q).map (·.2)
 hi:∀j q:Nat,k<=j->q<s.P->aq s.hs ((j:Int)*s.P+q)=none
 st1:∀(j:Nat) (x:CB) (z:YB),j<k->c.blocks[j]?=some x->s.y[j]?=some z->x.mark=false->z.state=1∨z.state=3
 st2:∀(j:Nat) (z:YB),k<=j->s.y[j]?=some z->z.state=1
theorem Na{k:Nat}(hP:Part s c k)(hk:k<s.B):
  Reads c (fJ s c k).2.1∧(((fJ s c k).2.2=4∧jx c (fJ s c k).2.1)∨((fJ s c k).2.2=0∧Part (fJ s c k).1 (fJ s c k).2.1 (k+1)∧(fJ s c k).1.B=s.B∧(fJ s c k).1.P=s.P∧(fJ s c k).1.Z=s.Z)):=by
 have hC:=hP.cont;obtain⟨x,hx⟩:=hC.rY hk;obtain⟨z,hz,Dm,LI⟩:=hC.Gh hk;have Ax:=hC.shape k x hx;have hA:Reads c (fq s c k).2.1∧(((fq s c k).2.2=4∧jx c (fq s c k).2.1)∨((fq s c k).2.2=0∧(fq s c k).2.1.on=true∧aV (fq s c k).1 (fq s c k).2.1∧(fq s c k).1.op=-1∧(fq s c k).1.B=s.B∧(fq s c k).1.P=s.P∧(fq s c k).1.Z=s.Z∧
   (∃z',(fq s c k).1.y[k]?=some z'∧(z'.state=1∨z'.state=3))∧(∀j:Nat,j≠k->((fq s c k).1.y[j]?).map (·.state)=(s.y[j]?).map (·.state))∧
   ∀j q:Nat,q<s.P->aq (fq s c k).1.hs ((j:Int)*s.P+q)=if j=k then(c.ly j q).map (·.2)else aq s.hs ((j:Int)*s.P+q))):=by
  unfold fq;rw[mL hx];by_cases h0:0<x.next
  ·rw[if_pos h0];have Dw:=E4 s.y k;have hzO:(fH s k).y[k]?=some {z with state:=2,taken:=0}:=by
    show(l8 s.y k).1[k]?=_;rw[Dw k,if_pos rfl,hz,kt];unfold BQ;rw[if_pos (hP.st2 k z (aN _) hz)]
   have hzJ:∀j:Nat,j≠k->(fH s k).y[j]?=s.y[j]?:=by
    intro j hj;show(l8 s.y k).1[j]?=_;rw[Dw j,if_neg (Ne.symm hj)]
   have hCO:aV (fH s k) c:=hC.Br Dw zx rfl rfl rfl rfl hC.Bc (yx _ _) (hC.vu.Jz _);have hn:0+x.next.toNat<=(fH s k).P:=by show 0+x.next.toNat<=s.P;have:=Ax.2.2.1;omega
   obtain⟨g1,g2⟩:=M9 x.next.toNat 0 (fH s k) c _ hCO hP.on hx hzO rfl rfl hn (fun q _ hq=>hP.hi k q (aN _) hq);refine⟨?_,?_⟩
   ·split<;>exact g1
   ·rcases g2 with⟨a0,a1⟩|⟨a0,a1,a2,a3,a4,a5,a6,⟨z',a7,a7'⟩,a8,a9⟩
    ·rw[if_pos (by omega)];exact aQ ⟨a0,a1⟩
    ·rw[if_neg (by omega)];dsimp only;generalize eW x.next.toNat (fH s k) c (k:Int)=r at a0 a1 a2 a3 a4 a5 a6 a7 a8 a9;obtain⟨s3,c3,cd⟩:=r;dsimp only at a0 a1 a2 a3 a4 a5 a6 a7 a8 a9⊢;have Mg:=E3 s3.y k 2 3;have zY:s3.op=-1:=by rw[a6];exact hP.op
     refine aE ⟨rfl,a1,a2.Br Mg (zw 2 3) rfl rfl rfl rfl a2.Bc (yw _ _ _ _) (a2.vu.turn _ _ _),zY,a3,a4,a5,⟨{z' with state:=3},?_,aE rfl⟩,?_,?_⟩
     ·rw[Mg k,if_pos rfl,a7,kt];unfold rO;rw[if_pos a7']
     ·intro j hj;rw[Mg j,if_neg (Ne.symm hj),a8 j hj,hzJ j hj]
     ·intro j q hq;refine(a9 j q hq).trans ?_;by_cases e:j=k
      ·rw[if_pos e];by_cases e2:q<x.next.toNat
       ·rw[if_pos ⟨e,by omega,by omega⟩]
       ·rw[if_neg (by omega)];subst e;rw[j8 hx,(hC.OS hx hq (by omega)).2];exact hP.hi j q (aN _) hq
      ·rw[if_neg e,if_neg (by omega)];rfl
  ·rw[if_neg h0];refine⟨Reads.refl c,aE ⟨rfl,hP.on,hC,hP.op,rfl,rfl,rfl,⟨z,hz,aQ (hP.st2 k z (aN _) hz)⟩,fun _ _=>rfl,fun j q hq=>?_⟩⟩;by_cases e:j=k
   ·rw[if_pos e];subst e;rw[j8 hx,(hC.OS hx hq (by omega)).2];exact hP.hi j q (aN _) hq
   ·rw[if_neg e]
 obtain⟨a1,a2⟩:=hA;unfold fJ;rcases a2 with⟨q0,q1⟩|⟨q0,q1,q2,q3,q4,q5,q6,⟨z',q7,q7'⟩,q8,q9⟩
 ·rw[if_pos (by omega)];exact⟨a1,aQ ⟨q0,q1⟩⟩
 ·rw[if_neg (by omega)];unfold qj;generalize fq s c (k:Int)=r at a1 q0 q1 q2 q3 q4 q5 q6 q7 q8 q9;obtain⟨s3,c3,cd⟩:=r;dsimp only at a1 q0 q1 q2 q3 q4 q5 q6 q7 q8 q9⊢;have hx3:c3.blocks[k]?=some x:=by rw[a1.blocks];exact hx
  rw[AF hx3];have Wt:∀(j:Nat) (w:YB),j≠k->s3.y[j]?=some w->∃w0,s.y[j]?=some w0∧w.state=w0.state:=by
   intro j w hj hw;have:=q8 j hj;rw[hw]at this;cases Th:s.y[j]? with
   |none=>rw[Th]at this;exact absurd this (by simp)
   |some w0=>rw[Th]at this;injection this with this;exact⟨w0,rfl,this⟩
  have hlo:∀j q:Nat,j<k+1->j<s.B->q<s.P->aq s3.hs ((j:Int)*s.P+q)=(c3.ly j q).map (·.2):=by
   intro j q h1 h2 h3;rw[q9 j q h3,a1.ly];split
   ·rfl
   ·exact hP.lo j q (by omega) h2 h3
  have hhi:∀j q:Nat,k+1<=j->q<s.P->aq s3.hs ((j:Int)*s.P+q)=none:=by
   intro j q h1 h2;rw[q9 j q h2,if_neg (by omega)];exact hP.hi j q (by omega) h2
  by_cases hm:x.mark=true
  ·rw[if_pos hm];have Mg:=zv s3.y k;refine⟨a1,aE ⟨rfl,⟨q2.Br Mg CK rfl rfl rfl rfl q2.Bc (pD _ _) (q2.vu.Gy _),q1,q3,?_,?_,?_,?_⟩,q4,q5,q6⟩⟩
   ·intro j q h1 h2 h3;show aq s3.hs ((j:Int)*s3.P+q)=_;rw[q5];exact hlo j q h1 (by rw[<-q4];exact h2) (by rw[<-q5];exact h3)
   ·intro j q h1 h2;show aq s3.hs ((j:Int)*s3.P+q)=_;rw[q5];exact hhi j q h1 (by rw[<-q5];exact h2)
   ·intro j xj zj h1 h2 h3 h4;have qE:j≠k:=by
     intro e;subst e;rw[hx3]at h2;injection h2 with h2;rw[<-h2,hm]at h4;exact absurd h4 (by simp)
    have Oy:(dL s3.y k).1[j]?=some zj:=h3;rw[Mg j,if_neg (Ne.symm qE)]at Oy;obtain⟨w0,Il,e⟩:=Wt j zj qE Oy;rw[e];exact hP.st1 j xj w0 (by omega) (by rw[<-a1.blocks];exact h2) Il h4
   ·intro j zj h1 h3;have qE:j≠k:=by omega
    have Oy:(dL s3.y k).1[j]?=some zj:=h3;rw[Mg j,if_neg (Ne.symm qE)]at Oy;obtain⟨w0,Il,e⟩:=Wt j zj qE Oy;rw[e];exact hP.st2 j w0 (by omega) Il
  ·rw[if_neg hm];refine⟨a1,aE ⟨q0,⟨q2,q1,q3,?_,?_,?_,?_⟩,q4,q5,q6⟩⟩
   ·rw[q4,q5];exact hlo
   ·rw[q5];exact hhi
   ·intro j xj zj h1 h2 h3 h4;by_cases qE:j=k
    ·subst qE;rw[q7]at h3;injection h3 with h3;rw[<-h3];exact q7'
    ·obtain⟨w0,Il,e⟩:=Wt j zj qE h3;rw[e];exact hP.st1 j xj w0 (by omega) (by rw[<-a1.blocks];exact h2) Il h4
   ·intro j zj h1 h3;have qE:j≠k:=by omega
    obtain⟨w0,Il,e⟩:=Wt j zj qE h3;rw[e];exact hP.st2 j w0 (by omega) Il
theorem G8(n:Nat):∀(k:Nat) (s:SM) (c:CM),Part s c k->k+n=s.B->
  Reads c (dM n k s c).2.1∧(((dM n k s c).2.2=4∧jx c (dM n k s c).2.1)∨((dM n k s c).2.2=0∧Part (dM n k s c).1 (dM n k s c).2.1 s.B∧(dM n k s c).1.B=s.B∧(dM n k s c).1.P=s.P∧(dM n k s c).1.Z=s.Z)):=by
 induction n with
 |zero=>
  intro k s c h hk;have:k=s.B:=by omega
  rw[this]at h;exact⟨Reads.refl c,aE ⟨rfl,h,rfl,rfl,rfl⟩⟩
 |succ n ih=>
  intro k s c h hk;rw[dM];obtain⟨a1,a2⟩:=Na h (by omega);rcases a2 with⟨q0,q1⟩|⟨q0,q1,q2,q3,q4⟩
  ·rw[if_pos (by omega)];exact⟨a1,aQ ⟨q0,q1⟩⟩
  ·rw[if_neg (by omega)];obtain⟨b1,b2⟩:=ih (k+1) _ _ q1 (by rw[q2];omega);refine⟨a1.trans b1,?_⟩;rw[q2,q3,q4]at b2;rcases b2 with⟨w0,w1⟩|w
   ·exact aQ ⟨w0,w1.before a1⟩
   ·exact aE w
theorem GK{B P j:Nat}{z:YB}(h:(vE B P)[j]?=some z):z=⟨1,0,List.replicate P (false,false)⟩:=by
 unfold vE at h;rw[qb]at h;split at h
 ·injection h with h;exact h.symm
 ·exact absurd h (by simp)
theorem Nb(ik:lH c.blocks.length c.P c.Z=true)(fi:c.on=true)(Ax:∀(k:Nat) (x:CB),c.blocks[k]?=some x->x.shape c.P c.Z):Part (SM.fresh c.blocks.length c.P c.Z) c 0:=by
 refine⟨⟨rfl,rfl,rfl,ik,?_,?_,⟨List.nodup_nil,by simp[SM.fresh]⟩,?_,?_,?_,?_,Ax⟩,fi,rfl,?_,?_,?_,?_⟩
 ·show(vE _ _).length=_;unfold vE;rw[gV];rfl
 ·intro z hz;obtain⟨j,hj⟩:=List.mem_iff_getElem?.1 hz;rw[GK hj];exact⟨by show(List.replicate _ _).length=_;rw[gV];rfl,bG _⟩
 ·have:=bO ik;show-1<=(-1:Int)∧(-1:Int)<(c.blocks.length:Int);omega
 ·intro n h hn;exact absurd hn (by simp[SM.fresh,qw])
 ·intro k z p hz hp;rw[GK hz];show((List.replicate _ (false,false)).getD p (false,false)).1=(aq [] _).isSome;rw[jR,qb];split<;>rfl
 ·intro k p h _ _ hl;exact absurd hl (by simp[SM.fresh,qw])
 ·intro j q h;omega
 ·intro j q _ _;rfl
 ·intro j x z h;omega
 ·intro j z _ hz;rw[GK hz]
theorem tA(ik:lH c.blocks.length c.P c.Z=true)(fi:c.on=true)(Ax:∀(k:Nat) (x:CB),c.blocks[k]?=some x->x.shape c.P c.Z):
  Reads c (bW c).2.1∧(((bW c).2.2=4∧jx c (bW c).2.1)∨((bW c).2.2=0∧aV (bW c).1 (bW c).2.1∧Live (bW c).1 (bW c).2.1∧(bW c).1.op=-1∧(bW c).1.B=c.blocks.length∧(bW c).1.P=c.P∧(bW c).1.Z=c.Z∧
   ∀j q:Nat,j<c.blocks.length->q<c.P->aq (bW c).1.hs ((j:Int)*c.P+q)=(c.ly j q).map (·.2))):=by
 obtain⟨a1,a2⟩:=G8 c.blocks.length 0 _ c (Nb ik fi Ax) (by show 0+c.blocks.length=c.blocks.length;omega);have e:bW c=dM c.blocks.length 0 (SM.fresh c.blocks.length c.P c.Z) c:=rfl;rw[e];generalize dM c.blocks.length 0 (SM.fresh c.blocks.length c.P c.Z) c=r at a1 a2⊢;refine⟨a1,?_⟩;rcases a2 with h|⟨q0,q1,q2,q3,q4⟩
 ·exact aQ h
 ·have q2':r.1.B=c.blocks.length:=q2;have q3':r.1.P=c.P:=q3;refine aE ⟨q0,q1.cont,⟨q1.on,?_,?_⟩,q1.op,q2,q3,q4,?_⟩
  ·intro k x z _ _ h3;have:=q1.op;omega
  ·intro k x z h1 h2 _ h4;refine q1.st1 k x z ?_ h1 h2 h4;show k<c.blocks.length;rw[<-a1.blocks];exact(List.getElem?_eq_some_iff.1 h1).1
  ·intro j q hj hq;have:=q1.lo j q hj (by rw[q2'];exact hj) (by rw[q3'];exact hq);rw[q3',a1.ly]at this;exact this
def ahead(c:CM):Nat:=(c.ms.filter fun m=>decide (c.ops<m.at_)).length
theorem sK(c:CM):ahead c<=c.ms.length:=mU _ _
theorem filter_lt{α:Type}(p q:α->Bool)(l:List α)(h:∀a,p a=true->q a=true){m:α}(hm:m∈l)(h1:q m=true)(h2:p m=false):(l.filter p).length<(l.filter q).length:=by
 induction l with
 |nil=>exact absurd hm (by simp)
 |cons a t ih=>
  have hle:∀t:List α,(t.filter p).length<=(t.filter q).length:=by
   intro t
   induction t with
   |nil=>exact aN _
   |cons b t ih=>
    rw[qf,qf];cases hp:p b with
    |true=>rw[h b hp];simpa using ih
    |false=>
     cases q b
     ·simpa using ih
     ·simp;omega
  rw[qf,qf];rcases List.mem_cons.1 hm with e|e
  ·subst e;rw[h1,h2];have:=hle t;simp;omega
  ·have:=ih e;cases hp:p a with
   |true=>rw[h a hp];simpa using this
   |false=>
    cases q a
    ·simpa using this
    ·simp;omega
theorem VM{c c':CM}(LQ:c'.ms=c.ms)(ho:c.ops<=c'.ops){m:Mi}(hm:m∈c.ms)(h1:c.ops<m.at_)(h2:m.at_<=c'.ops):ahead c'<ahead c:=by
 unfold ahead;rw[LQ];refine filter_lt _ _ _ ?_ hm ?_ ?_
 ·intro a ha;simp only[decide_eq_true_eq]at ha⊢;omega
 ·simpa using h1
 ·simp;omega
end
section
variable{s s':SM}{c c':CM}
theorem Rg(hC:aV s c){k p:Nat}(hk:k<s.B)(hp:p<s.P):jZ s.B s.P ((k:Int)*s.P+p)=((k:Int),(p:Int)):=by
 have ik:=bO hC.pl;have h0:=Vi hC hk hp;have h1:(k:Int)*s.P+p<=(s.B:Int)*s.P-1:=by
  have e:((k:Int)+1)*s.P<=(s.B:Int)*s.P:=Int.mul_le_mul_of_nonneg_right (by omega) (by omega);have e2:((k:Int)+1)*s.P=(k:Int)*s.P+s.P:=by rw[Int.add_mul,Int.one_mul]
  omega
 unfold jZ;rw[if_pos ⟨h0.1,h1⟩];have e1:((k:Int)*s.P+p)/s.P=k:=by
  rw[Int.add_comm,Int.add_mul_ediv_right _ _ (by omega),Int.ediv_eq_zero_of_lt (by omega) (by omega),Int.zero_add]
 have e2:((k:Int)*s.P+p)%s.P=p:=by
  rw[Int.add_comm,Int.add_mul_emod_self_right,Int.emod_eq_of_lt (by omega) (by omega)]
 rw[e1,e2]
theorem Fc(hC:aV s c){k p:Nat}{h:Hd}(hk:k<s.B)(hp:p<s.P)(hl:aq s.hs ((k:Int)*s.P+p)=some h):bQ s ((k:Int)*s.P+p)=((k:Int),(p:Int),0):=by
 unfold bQ;rw[Rg hC hk hp,if_neg (by dsimp only;omega),hl,if_neg (by simp)]
theorem J6(hC:aV s c){k p:Nat}{h:Hd}{d:List UInt8}(hk:k<s.B)(hp:p<s.P)(hl:aq s.hs ((k:Int)*s.P+p)=some h)(hv:c.ly k p=some (d,h)):
  Reads c (oq s c ((k:Int)*s.P+p)).1∧(((oq s c ((k:Int)*s.P+p)).2=(d,h,0)∧c.on=true∧(oq s c ((k:Int)*s.P+p)).1.on=true)∨((oq s c ((k:Int)*s.P+p)).2=([],Hd.zero,4)∧(oq s c ((k:Int)*s.P+p)).1.on=false∧(c.on=true->jx c (oq s c ((k:Int)*s.P+p)).1))):=by
 obtain⟨x,hx⟩:=hC.rY hk;have e:oq s c ((k:Int)*s.P+p)=if(c.read k p).2.2≠0 then((c.read k p).1,[],Hd.zero,(c.read k p).2.2)else match fE (c.read k p).2.1 with
  |some q=>((c.read k p).1,q.1,q.2,0)
  |none=>((c.read k p).1,[],Hd.zero,0):=by
  unfold oq;rw[Fc hC hk hp hl,if_neg (by simp)];rfl
 rw[e];cases fi:c.on with
 |true=>
  obtain⟨r1,r2⟩:=Fb hC fi hx hp;rcases r2 with⟨q0,q1,q2⟩|⟨q0,q1⟩
  ·rw[if_neg (by omega),q2,<-j8 hx,hv];exact⟨r1,aQ ⟨rfl,rfl,q1⟩⟩
  ·rw[if_pos (by omega),q0];exact⟨r1,aE ⟨rfl,q1.1,fun _=>q1⟩⟩
 |false=>
  have hb:∀g,c.jE g=(c,Mi.zero,4):=by intro g;unfold CM.jE;rw[fi];rfl
  have hr:c.read k p=(c,[],4):=by unfold CM.read;rw[hb];rfl
  rw[hr];exact⟨Reads.refl c,aE ⟨rfl,fi,fun h=>absurd h (by simp)⟩⟩
theorem Reads.live(g:Reads c c')(h:Live s c)(fi:c'.on=true):Live s c':=⟨fi,fun k x z h1=>h.LR k x z (by rw[<-g.blocks];exact h1),fun k x z h1=>h.Av k x z (by rw[<-g.blocks];exact h1)⟩
theorem Reads.next(g:Reads c c')(k:Int):c'.bu k=c.bu k:=by unfold CM.bu CM.pY;rw[g.blocks]
theorem Reads.df(g:Reads c c')(k:Int):c'.fY k=c.fY k:=by unfold CM.fY CM.pY;rw[g.blocks]
theorem Reads.mark(g:Reads c c')(k:Int):c'.eZ k=c.eZ k:=by unfold CM.eZ CM.pY;rw[g.blocks]
theorem Fe(hC:aV s c){k p:Nat}{h:Hd}(hk:k<s.B)(hp:p<s.P)(hl:aq s.hs ((k:Int)*s.P+p)=some h):
  (fF s ((k:Int)*s.P+p)).2=0∧aV (fF s ((k:Int)*s.P+p)).1 c∧(Live s c->Live (fF s ((k:Int)*s.P+p)).1 c)∧(fF s ((k:Int)*s.P+p)).1.B=s.B∧(fF s ((k:Int)*s.P+p)).1.P=s.P∧(fF s ((k:Int)*s.P+p)).1.Z=s.Z∧
   (fF s ((k:Int)*s.P+p)).1.op=s.op∧∀n,aq (fF s ((k:Int)*s.P+p)).1.hs n=if n=(k:Int)*s.P+p then none else aq s.hs n:=by
 obtain⟨z,hz,Dm,LI⟩:=hC.Gh hk;have hky:=(List.getElem?_eq_some_iff.1 hz).1;have hb:=hC.bit k z p hz hp;rw[hl,Option.isSome_some]at hb;have ik:p<z.ad.length:=by omega
 have hD:mW s.y k p=(s.y.set k {z with ad:=z.ad.set p (false,false)},0):=by
  unfold mW IQ;rw[lM,hz];dsimp only;rw[if_pos ⟨by omega,by omega⟩];dsimp only;rw[Int.toNat_natCast,if_pos hb];unfold ug lB;rw[Int.toNat_natCast,Int.toNat_natCast]
 have e:fF s ((k:Int)*s.P+p)=({T4 s ((k:Int)*s.P+p)with y:=s.y.set k {z with ad:=z.ad.set p (false,false)}},0):=by
  unfold fF;rw[Fc hC hk hp hl,if_neg (by simp),hD]
 rw[e];have nV:∀n,aq (vI s.hs ((k:Int)*s.P+p)) n=if n=(k:Int)*s.P+p then none else aq s.hs n:=fun n=>Rb _ n hC.wf.nodup;refine⟨rfl,⟨hC.B,hC.P,hC.Z,hC.pl,?_,?_,hC.wf.del _,hC.Bc,?_,?_,?_,hC.shape⟩,?_,rfl,rfl,rfl,rfl,nV⟩
 ·show(s.y.set k _).length=_;rw[k5];exact hC.yl
 ·intro w hw;rcases vM hw with h1|h1
  ·exact hC.vu w h1
  ·rw[h1];exact⟨by show(z.ad.set p _).length=s.P;rw[k5];exact Dm,LI⟩
 ·intro n g hg;have nD:aq (vI s.hs ((k:Int)*s.P+p)) n=some g:=hg;rw[nV]at nD;split at nD
  ·exact absurd nD (by simp)
  ·exact hC.keys n g nD
 ·intro j w q hw hq;show _=(aq (vI s.hs ((k:Int)*s.P+p)) ((j:Int)*s.P+q)).isSome;have hw':(s.y.set k {z with ad:=z.ad.set p (false,false)})[j]?=some w:=hw;have PU:q<s.P:=hq;rw[nV];rw[dx _ _ _ _ hky]at hw';by_cases e:k=j
  ·subst e;rw[if_pos rfl]at hw';injection hw' with hw';subst hw';show((z.ad.set p (false,false)).getD q (false,false)).1=_;rw[jR,dx _ _ _ _ ik];by_cases e2:p=q
   ·subst e2;rw[if_pos rfl,if_pos rfl];rfl
   ·rw[if_neg e2,if_neg (fun e3=>e2 (key_inj PU hp e3).2.symm),<-jR];exact hC.bit k z q hz PU
  ·rw[if_neg e]at hw';rw[if_neg (fun e3=>e (key_inj PU hp e3).1.symm)];exact hC.bit j w q hw' PU
 ·intro j q g hj hq hg;have nD:aq (vI s.hs ((k:Int)*s.P+p)) ((j:Int)*s.P+q)=some g:=hg;rw[nV]at nD;split at nD
  ·exact absurd nD (by simp)
  ·exact hC.aW j q g hj hq nD
 ·intro hL;have bD:∀(j:Nat) (w:YB),(s.y.set k {z with ad:=z.ad.set p (false,false)})[j]?=some w->∃w0,s.y[j]?=some w0∧w.state=w0.state∧w.taken=w0.taken:=by
   intro j w hw;rw[dx _ _ _ _ hky]at hw;by_cases e:k=j
   ·subst e;rw[if_pos rfl]at hw;injection hw with hw;exact⟨z,hz,by rw[<-hw],by rw[<-hw]⟩
   ·rw[if_neg e]at hw;exact⟨w,hw,rfl,rfl⟩
  refine⟨hL.on,?_,?_⟩
  ·intro j x w h1 h2 h3;obtain⟨w0,a1,a2,a3⟩:=bD j w h2;rw[a2,a3];exact hL.LR j x w0 h1 a1 h3
  ·intro j x w h1 h2 h3 h4;obtain⟨w0,a1,a2,a3⟩:=bD j w h2;rw[a2];exact hL.Av j x w0 h1 a1 h3 h4
def yg(f:Nat->Bool)(n:Nat):List Int:=((List.range n).filter f).map fun i:Nat=>(i:Int)
def kW(s:SM)(n:Nat):Bool:=(aq s.hs (n:Int)).isSome
theorem Nc(hC:aV s c){k:Nat}(hk:k<s.B):iE s k=((List.range s.P).filter fun p=>kW s (k*s.P+p)).map fun p:Nat=>((k*s.P+p:Nat):Int):=by
 obtain⟨z,hz,Dm,LI⟩:=hC.Gh hk;unfold iE cN;rw[lM,hz];dsimp only;rw[Dm];unfold eH;rw[List.map_map];have e:(List.range s.P).filter (fun i=>(z.ad.getD i (false,false)).1)=(List.range s.P).filter fun p=>kW s (k*s.P+p):=by
  refine List.filter_congr fun p hp=>?_;rw[hC.bit k z p hz (List.mem_range.1 hp)];unfold kW;rw[Int.natCast_add,Int.natCast_mul]
 rw[e];refine List.map_congr_left fun p _=>?_;show(k:Int)*s.P+p=_;rw[Int.natCast_add,Int.natCast_mul]
theorem Ff(P k:Nat):List.range ((k+1)*P)=List.range (k*P)++(List.range P).map fun p=>k*P+p:=by
 rw[Nat.succ_mul,List.range_add]
theorem Rh(hC:aV s c):∀k,k<=s.B->fc s k=yg (kW s) (k*s.P):=by
 intro k
 induction k with
 |zero=>intro _;unfold fc yg;rw[Nat.zero_mul];rfl
 |succ k ih=>
  intro hk;have e1:fc s (k+1)=fc s k++iE s k:=by
   unfold fc;rw[ub,dm,qe];simp
  rw[e1,ih (by omega),Nc hC (by omega)];unfold yg;rw[Ff,oA,dm,List.filter_map,List.map_map];rfl
theorem yH(hC:aV s c):aC s=yg (kW s) (s.B*s.P):=Rh hC s.B (aN _)
structure Calm(c:CM)(N:Int):Prop where
 ms:∀m∈c.ms,N<m.at_
 ok:∀(k:Nat) (x:CB),c.blocks[k]?=some x->x.failed=false
theorem Calm.kind{N:Int}(h:Calm c N)(hN:c.ops+1<=N):c.mi.kind=0:=by
 unfold CM.mi zS;cases e:List.find? (fun m=>decide (m.at_=c.ops+1)) c.ms with
 |none=>rfl
 |some m=>
  have h1:=h.ms m (List.mem_of_find?_eq_some e);have h2:m.at_=c.ops+1:=by simpa using List.find?_some e
  omega
theorem Calm.set{N:Int}(h:Calm c N){k:Nat}{x':CB}(LQ:c'.ms=c.ms)(hk:k<c.blocks.length)(hb:c'.blocks=c.blocks.set k x')(hf:x'.failed=false):Calm c' N:=by
 refine⟨by rw[LQ];exact h.ms,fun j x hx=>?_⟩;rw[hb,dx _ _ _ _ hk]at hx;by_cases e:k=j
 ·rw[if_pos e]at hx;injection hx with hx;rw[<-hx];exact hf
 ·rw[if_neg e]at hx;exact h.ok j x hx
theorem Calm.reads{N:Int}(h:Calm c N)(g:Reads c c'):Calm c' N:=⟨by rw[g.ms];exact h.ms,fun k x hx=>h.ok k x (by rw[<-g.blocks];exact hx)⟩
theorem Ri{N:Int}(hC:aV s c)(hL:Live s c)(hK:Calm c N)(hN:c.ops+1<=N):(dR s c=[]∧je s c=(s,c,7))∨
  ∃(k:Nat) (x x':CB) (L:List Int),dR s c=(k:Int)::L∧k<s.B∧c.blocks[k]?=some x∧x.mark=false∧gR s k∧(je s c).2.2=0∧(je s c).1.op=k∧(je s c).2.1.blocks=c.blocks.set k x'∧x'.next=0∧x'.mark=false∧x'.failed=false∧
   x'.df=(if 0<x.next then x.df+1 else x.df)∧(je s c).2.1.ms=c.ms∧(je s c).2.1.ops=(if 0<x.next then c.ops+1 else c.ops)∧cK s c (je s c).1 (je s c).2.1∧Live (je s c).1 (je s c).2.1:=by
 have oY:=fun v=>rq (s:=s) (c:=c) hC (v:=v);unfold je;cases hE:dR s c with
 |nil=>exact aQ ⟨rfl,rfl⟩
 |cons v L=>
  refine aE ?_;obtain⟨k,rfl,hk,hcb⟩:=(oY v).1 (by rw[hE];exact dC);obtain⟨x,hx⟩:=hC.rY hk;obtain⟨hm,hn,_⟩:=(fe hC hx).1 hcb;have hi:=(List.getElem?_eq_some_iff.1 hx).1;rw[k7,mL hx];have rQ:=hK.kind hN;by_cases h0:0<x.next
  ·obtain⟨x',hb,uy,bD,fI,mM⟩:=CL hC hL hx hm hn;have qN:(bT c k).1.blocks[k]?=some x':=by rw[hb,dx _ _ _ _ hi,if_pos rfl]
   rcases mM with⟨h1,h2,h3,h4,h5,_⟩|⟨_,_,h3⟩|⟨_,_,_,h4⟩
   ·rw[if_pos h0,if_neg (by omega),if_neg (by omega)];obtain⟨o1,o2,o3⟩:=open_spec bD.cont (hL.to0.XV h2 hx hb (uy.trans hm.symm)) qN uy hn h3;exact⟨k,x,x',L,rfl,hk,hx,hm,hn,rfl,o3,hb,h3,uy,h5,by rw[if_pos h0,h4],bD.ms,by rw[if_pos h0];exact fI,bD.trans o1,o2⟩
   ·omega
   ·rcases h4 with h4|h4
    ·omega
    ·rw[hK.ok k x hx]at h4;exact absurd h4 (by simp)
  ·rw[if_neg h0];have h00:x.next=0:=by have:=(hC.shape k x hx).2.1;omega
   obtain⟨o1,o2,o3⟩:=open_spec hC hL.to0 hx hm hn h00;exact⟨k,x,x,L,rfl,hk,hx,hm,hn,rfl,o3,(Ce hx).symm,h00,hm,hK.ok k x hx,by rw[if_neg h0],rfl,by rw[if_neg h0],o1,o2⟩
structure AG(N:Int)(s:SM)(c:CM)(d:List UInt8)(h:Hd)(r:SM×CM×Int×Int)(k p:Nat)(x x':CB):Prop where
 code:r.2.2=((k:Int)*s.P+p,0)
 kb:k<s.B
 pb:p<s.P
 pY:c.blocks[k]?=some x
 T7:r.2.1.blocks=c.blocks.set k x'
 next:x'.next=p+1
 mark:x.mark=false∧x'.mark=false
 calm:Calm r.2.1 N
 live:Live r.1 r.2.1
 op:r.1.op=k
 free:aq s.hs ((k:Int)*s.P+p)=none
 hs:r.1.hs=pN s.hs ((k:Int)*s.P+p) h
 val:r.2.1.ly k p=some (d,h)
 old:∀(j q:Nat) v,r.2.1.ly j q=some v->(j=k∧q=p)∨c.ly j q=some v
 Bd:(dK s c≠0∧s.op=k∧x.next=p∧x'.df=x.df∧r.2.1.ops=c.ops+1)∨(dK s c=0∧p=0∧(∃L,dR s c=(k:Int)::L)∧gR s k∧x'.df=(if 0<x.next then x.df+1 else x.df)∧r.2.1.ops=(if 0<x.next then c.ops+2 else c.ops+1))
theorem AG.ops{N:Int}{d:List UInt8}{h:Hd}{r:SM×CM×Int×Int}{k p:Nat}{x x':CB}(q:AG N s c d h r k p x x'):c.ops<=r.2.1.ops∧r.2.1.ops<=c.ops+2:=by
 rcases q.Bd with⟨_,_,_,_,e⟩|⟨_,_,_,_,_,e⟩
 ·omega
 ·split at e<;>omega
theorem Cg{N:Int}{h:Hd}{d:List UInt8}(hC:aV s c)(hL:Live s c)(hK:Calm c N)(hN:c.ops+2<=N)(hm:h.may=true)(hi:zW h)(hd:d.length=s.Z):
  oJ s c d h (bn s c h d)∧((bn s c h d=(s,c,0,7)∧dK s c=0∧dR s c=[])∨∃k p x x',AG N s c d h (bn s c h d) k p x x'):=by
 have hR:=Fa hC hL hm hi hd;refine⟨hR,?_⟩;have ik:=bO hC.pl;have fT:sizedB d.length=true:=by
  unfold sizedB;rw[hd];simp;omega
 have DU:=sI d h;have DT:=EY d h fT hm hi;have e0:bn s c h d=xQ h (gC d h) (c.tV+1) s c:=by
  unfold bn;rw[if_neg (by rw[fT,hm];simp[hd]),if_neg (by rw[hL.on];simp)];rfl
 rw[e0]at hR⊢;have hT:(eE s c=(s,c,7)∧dK s c=0∧dR s c=[])∨∃(k:Nat) (x x1:CB),k<s.B∧c.blocks[k]?=some x∧x.mark=false∧(eE s c).2.2=0∧(eE s c).1.op=k∧(eE s c).2.1.blocks=c.blocks.set k x1∧x1.next<s.P∧x1.failed=false∧
   (eE s c).2.1.ms=c.ms∧(eE s c).2.1.ops<=c.ops+1∧cK s c (eE s c).1 (eE s c).2.1∧Live (eE s c).1 (eE s c).2.1∧
   ((dK s c≠0∧s.op=k∧x1.next=x.next∧x1.df=x.df∧(eE s c).2.1.ops=c.ops)∨(dK s c=0∧x1.next=0∧(∃L,dR s c=(k:Int)::L)∧gR s k∧x1.df=(if 0<x.next then x.df+1 else x.df)∧(eE s c).2.1.ops=(if 0<x.next then c.ops+1 else c.ops))):=by
  unfold eE;by_cases h0:dK s c=0
  ·rw[if_pos h0];rcases Ri hC hL hK (by omega)with⟨a1,a2⟩|⟨k,x,x',L,a1,a2,a3,a4,a5,a6,a7,a8,a9,a10,a11,a12,a13,a14,a16,a17⟩
   ·exact aQ ⟨a2,h0,a1⟩
   ·exact aE ⟨k,x,x',a2,a3,a4,a6,a7,a8,by omega,a11,a13,by rw[a14];split<;>omega,a16,a17,aE ⟨h0,a9,⟨L,a1⟩,a5,a12,a14⟩⟩
  ·rw[if_neg h0];have im:=hC.Bc;have ei:s.op≠-1:=fun e=>h0 (by unfold dK;rw[if_pos e]);obtain⟨k,hk⟩:∃k:Nat,s.op=(k:Int):=⟨s.op.toNat,by omega⟩;have hkB:k<s.B:=by omega
   obtain⟨x,hx⟩:=hC.rY hkB;obtain⟨z,hz,_⟩:=hC.Gh hkB;refine aE ⟨k,x,x,hkB,hx,(hL.LR k x z hx hz hk).2.2,rfl,hk,(Ce hx).symm,?_,hK.ok k x hx,rfl,by show c.ops<=c.ops+1;omega,cK.refl hC,hL,aQ ⟨h0,hk,rfl,rfl,rfl⟩⟩;rw[left_at hC hk hx]at h0;have:=(hC.shape k x hx).2.2.1;omega
 have uD:=hR.Bd;rw[xQ]at hR uD⊢;rcases hT with⟨t1,t2,t3⟩|⟨k,x,x1,hkB,hx,Su,t0,tto,tb,tn,tf,tms,ajc,tst,tL,ahf⟩
 ·rw[t1];exact aQ ⟨rfl,t2,t3⟩
 ·refine aE ?_;generalize eE s c=t at*;obtain⟨s1,c1,code⟩:=t;dsimp only at t0 tto tb tms ajc tst tL ahf hR uD⊢;rw[if_neg (by omega)]at hR uD⊢;have tI:=(List.getElem?_eq_some_iff.1 hx).1;have hx1:c1.blocks[k]?=some x1:=by rw[tb,dx _ _ _ _ tI,if_pos rfl]
  have hK1:Calm c1 N:=hK.set tms tI tb tf;obtain⟨x',p,hxp,LG,Ln,hb,yU,ahd,Ax,Ss,gP,gZ,Xw,Mf,T6,kg,mM⟩:=E8 tst.cont tL tto hx1 (by rw[tst.P];exact tn) (by rw[tst.Z];omega) DT;generalize hq:fQ c1 s1.op (bX s1.y s1.op).2.1 (gC d h)=q at*;obtain⟨c2,qc⟩:=q;dsimp only at hb gP gZ Xw Mf T6 mM;have p6:=hK1.kind (by omega);rcases mM with⟨q0,q1,q2,q3,_⟩|⟨_,_,_,q3⟩|⟨_,_,_,_,q4⟩
  ·unfold DW at hR uD⊢;dsimp only at hR uD⊢;rw[if_pos q0,Ln]at hR uD⊢;have Ta:=tst.P;rw[tto,Ta]at uD⊢;dsimp only at uD;rcases uD with⟨_,wL,k',p',w1,w2,w3,w4,w5,w6,w7,w8⟩|⟨h7,_⟩|⟨h4,_⟩
   ·have ahg:p<s.P:=by rw[<-Ta];exact LG
    obtain⟨rfl,rfl⟩:=key_inj ahg w2 w3;have ahh:c2.blocks=c.blocks.set k x':=by rw[hb,tb,List.set_set]
    refine⟨k,p,x,x',⟨rfl,hkB,ahg,hx,ahh,by omega,⟨Su,yU⟩,hK.set (Xw.trans tms) tI ahh q3,wL,tto,w4,w5,w7,w8,?_⟩⟩;rcases ahf with⟨u1,u2,u3,u4,u5⟩|⟨u1,u2,u3,u4,u5,u6⟩
    ·exact aQ ⟨u1,u2,by omega,by omega,by show c2.ops=_;omega⟩
    ·exact aE ⟨u1,by omega,u3,u4,by rw[Ss,u5],by show c2.ops=_;rw[T6,u6];split<;>omega⟩
   ·exact absurd h7 (by decide)
   ·exact absurd h4 (by decide)
  ·omega
  ·rcases q4 with q4|q4
   ·omega
   ·rw[tf]at q4;exact absurd q4 (by simp)
end
section
variable{s s':SM}{c c':CM}
def CM.vN(c:CM)(n:Nat):Option (List UInt8×Hd):=c.ly (n/c.P) (n%c.P)
theorem aji(P n:Nat):((n/P:Nat):Int)*P+(n%P:Nat)=n:=by
 rw[<-Int.natCast_mul,<-Int.natCast_add,Nat.mul_comm];exact congrArg Int.ofNat (Nat.div_add_mod n P)
theorem YT{B P n:Nat}(h:n<B*P):n/P<B:=Nat.div_lt_of_lt_mul (by rw[Nat.mul_comm];exact h)
theorem US{P k p:Nat}(hp:p<P):(k*P+p)/P=k∧(k*P+p)%P=p:=
 ⟨by rw[Nat.add_comm,Nat.add_mul_div_right _ _ (by omega),Nat.div_eq_of_lt hp];omega,by rw[Nat.add_comm,Nat.add_mul_mod_self_right,Nat.mod_eq_of_lt hp]⟩
theorem UT{B P k p:Nat}(hk:k<B)(hp:p<P):k*P+p<B*P:=by
 have:(k+1)*P<=B*P:=kY _ hk;rw[Nat.succ_mul]at this;omega
theorem aV.pos(hC:aV s c):0<s.P:=by have:=bO hC.pl;omega
theorem aV.vkp(hC:aV s c){k p:Nat}(hp:p<s.P):c.vN (k*s.P+p)=c.ly k p:=by
 obtain⟨e1,e2⟩:=US (k:=k) hp;unfold CM.vN;rw[hC.P,e1,e2]
theorem aV.split(hC:aV s c){n:Nat}(hn:n<s.B*s.P):n/s.P<s.B∧n%s.P<s.P∧(n:Int)=((n/s.P:Nat):Int)*s.P+(n%s.P:Nat)∧c.vN n=c.ly (n/s.P) (n%s.P):=
 ⟨YT hn,Nat.mod_lt _ hC.pos,(aji _ _).symm,by unfold CM.vN;rw[hC.P]⟩
theorem aV.has(hC:aV s c){n:Int}{h:Hd}(hl:aq s.hs n=some h):∃m:Nat,n=m∧m<s.B*s.P∧∃d,c.vN m=some (d,h):=by
 obtain⟨k,p,hk,hp,rfl⟩:=hC.keys n h hl;obtain⟨d,hv⟩:=hC.aW k p h hk hp hl;exact⟨k*s.P+p,by simp,UT hk hp,d,by rw[hC.vkp hp];exact hv⟩
structure acn(s:SM)(c:CM)(d:List UInt8)(h:Hd)(r:SM×CM×Int×Int):Prop where
 B:r.1.B=s.B
 P:r.1.P=s.P
 Z:r.1.Z=s.Z
 kT:r.2.1.bZ=c.bZ
 ms:r.2.1.ms=c.ms
 cont:aV r.1 r.2.1
 keep:∀(n:Nat) (g:Hd),aq s.hs (n:Int)=some g->r.2.1.vN n=c.vN n
 Bd:(r.2.2.2=0∧Live r.1 r.2.1∧∃n:Nat,n<s.B*s.P∧r.2.2.1=n∧aq s.hs (n:Int)=none∧(∀m:Int,aq r.1.hs m=if m=n then some h else aq s.hs m)∧r.2.1.vN n=some (d,h)∧
   ∀(m:Nat) v,m<s.B*s.P->r.2.1.vN m=some v->m=n∨c.vN m=some v)∨
  (r.2.2.2=7∧Live r.1 r.2.1∧r.1.hs=s.hs∧∀(m:Nat) v,m<s.B*s.P->r.2.1.vN m=some v->c.vN m=some v)∨
  (r.2.2.2=4∧r.2.1.on=false∧r.1.hs=s.hs∧(∃m∈c.ms,m.kind=2)∧∃n:Nat,∀(m:Nat) v,m<s.B*s.P->r.2.1.vN m=some v->c.vN m=some v∨(m=n∧aq s.hs (m:Int)=none∧v=(d,h)))
theorem oJ.toN(hC:aV s c){d:List UInt8}{h:Hd}{r:SM×CM×Int×Int}(g:oJ s c d h r):acn s c d h r:=by
 have hold:∀(m:Nat),m<s.B*s.P->r.2.1.vN m=r.2.1.ly (m/s.P) (m%s.P):=fun m hm=>by rw[(g.cont.split (n:=m) (by rw[g.B,g.P];exact hm)).2.2.2,g.P]
 refine⟨g.B,g.P,g.Z,g.kT,g.ms,g.cont,?_,?_⟩
 ·intro n x hx;obtain⟨m,e,hm,_⟩:=hC.has hx;obtain rfl:n=m:=by omega
  obtain⟨h1,h2,h3,h4⟩:=hC.split hm;rw[hold n hm,h4];exact g.keep _ _ x h1 h2 (by rw[<-h3];exact hx)
 ·rcases g.Bd with⟨w1,w2,k,p,w3,w4,w5,w6,w7,w8,w9,lQ⟩|⟨w1,w2,w3,w4⟩|⟨w1,w2,w3,w4,w5⟩
  ·have e:(k:Int)*s.P+p=((k*s.P+p:Nat):Int):=by simp
   refine aQ ⟨w1,w2,k*s.P+p,UT w3 w4,by rw[w5,e],by rw[<-e];exact w6,?_,?_,?_⟩
   ·intro m;rw[w7,lg h m w6,e]
   ·have aG:=UT w3 w4;rw[hold _ aG,(US w4).1,(US w4).2];exact w9
   ·intro m v hm hv;obtain⟨h1,h2,h3,h4⟩:=hC.split hm;rw[hold m hm]at hv;rcases lQ _ _ v hv with⟨a,b⟩|a
    ·left
     have:=Nat.div_add_mod m s.P;rw[a,b,Nat.mul_comm]at this;exact this.symm
    ·right
     rw[h4];exact a
  ·refine aE (aQ ⟨w1,w2,w3,fun m v hm hv=>?_⟩);obtain⟨h1,h2,h3,h4⟩:=hC.split hm;rw[hold m hm]at hv;rw[h4];exact w4 _ _ v hv
  ·obtain⟨k,p,ho⟩:=g.one w1;refine aE (aE ⟨w1,w2,w3,w4,k*s.P+p,fun m v hm hv=>?_⟩);obtain⟨h1,h2,h3,h4⟩:=hC.split hm;rw[hold m hm]at hv;rw[h4];rcases ho _ _ v hv with a|⟨a,b⟩
   ·exact aQ a
   ·rcases w5 _ _ v hv with a2|⟨_,_,a2,a3⟩
    ·exact aQ a2
    ·right
     have:=Nat.div_add_mod m s.P;rw[a,b,Nat.mul_comm]at this;exact⟨this.symm,by rw[h3];exact a2,a3⟩
theorem xU{h:Hd}{d:List UInt8}(hC:aV s c)(hL:Live s c)(hm:h.may=true)(hi:zW h)(hd:d.length=s.Z):acn s c d h (bn s c h d):=(Fa hC hL hm hi hd).toN hC
structure OT(s:SM)(c:CM)(f:Int->Prop)(t:SM):Prop where
 cont:aV t c
 live:Live s c->Live t c
 B:t.B=s.B
 P:t.P=s.P
 Z:t.Z=s.Z
 gone:∀m,f m->aq t.hs m=none
 stay:∀m,¬f m->aq t.hs m=aq s.hs m
theorem OU(hC:aV s c){n:Nat}{h:Hd}(hl:aq s.hs (n:Int)=some h):(fF s n).2=0∧OT s c (fun m=>m=n) (fF s n).1:=by
 obtain⟨m,e,hm,_⟩:=hC.has hl;obtain rfl:n=m:=by omega
 obtain⟨h1,h2,h3,_⟩:=hC.split hm;have lP:=hl;rw[h3]at lP;obtain⟨d1,d2,d3,d4,d5,d6,d7,d8⟩:=Fe hC h1 h2 lP;rw[<-h3]at d1 d2 d3 d4 d5 d6 d7 d8;exact⟨d1,d2,d3,d4,d5,d6,fun m hm=>by rw[d8,if_pos hm],fun m hm=>by rw[d8,if_neg hm]⟩
def dI(s:SM)(L:List Nat):SM:=L.foldl (fun(t:SM) (n:Nat)=>(fF t (n:Int)).1) s
theorem sQ(s:SM)(L:List Nat)(n:Nat):dI s (L++[n])=(fF (dI s L) n).1:=by simp[dI]
theorem zz(s:SM)(L:List Nat)(n:Nat):dI s (n::L)=dI (fF s n).1 L:=rfl
theorem yh:∀(L:List Nat) (s:SM),aV s c->L.Nodup->(∀n∈L,(aq s.hs (n:Int)).isSome=true)->OT s c (fun m=>∃n∈L,m=(n:Nat)) (dI s L)
 |[],s,hC,_,_=>⟨hC,id,rfl,rfl,rfl,fun m ⟨n,hn,_⟩=>absurd hn (by simp),fun _ _=>rfl⟩
 |n::L,s,hC,vf,hl=>by
  rw[zz];obtain⟨h,hh⟩:=Option.isSome_iff_exists.1 (hl n dC);obtain⟨_,D⟩:=OU hC hh;rw[List.nodup_cons]at vf;have E:=yh L _ D.cont vf.2 fun m hm=>by
   rw[D.stay m (fun e=>vf.1 (by have:m=n:=(by omega);rw[<-this];exact hm))];exact hl m (fA _ hm)
  refine⟨E.cont,fun h=>E.live (D.live h),E.B.trans D.B,E.P.trans D.P,E.Z.trans D.Z,?_,?_⟩
  ·rintro m⟨k,hk,e⟩;by_cases hm:∃n∈L,m=(n:Nat)
   ·exact E.gone m hm
   ·rw[E.stay m hm];rcases List.mem_cons.1 hk with h1|h1
    ·exact D.gone m (by rw[e,h1])
    ·exact absurd ⟨k,h1,e⟩ hm
  ·intro m hm;rw[E.stay m fun⟨k,hk,e⟩=>hm ⟨k,fA _ hk,e⟩];exact D.stay m fun e=>hm ⟨n,dC,e⟩
theorem anK(hC:aV s c){n:Nat}{h:Hd}{d:List UInt8}(hl:aq s.hs (n:Int)=some h)(hv:c.vN n=some (d,h)):
  Reads c (oq s c n).1∧(((oq s c n).2=(d,h,0)∧c.on=true∧(oq s c n).1.on=true)∨((oq s c n).2=([],Hd.zero,4)∧(oq s c n).1.on=false∧(c.on=true->jx c (oq s c n).1))):=by
 obtain⟨m,e,hm,_⟩:=hC.has hl;obtain rfl:n=m:=by omega
 obtain⟨h1,h2,h3,h4⟩:=hC.split hm;rw[h3]at hl;rw[h4]at hv;have:=J6 hC h1 h2 hl hv;rw[<-h3]at this;exact this
end
section
variable{s s':SM}{c c':CM}
def fh(q g:Int):Hd:=⟨4,0,q,g⟩
def gA(q g:Int):Hd:=⟨3,0,q,g⟩
theorem mz{q g:Int}(h1:1<=q)(h2:q<=1099511627775)(h3:0<=g)(h4:g<=16777215):(fh q g).may=true∧zW (fh q g):=by
 refine⟨?_,by show(0:Int)<=0;omega,by show(0:Int)<18446744073709551616;omega⟩;unfold Hd.may fh;simp;omega
theorem oP{q g:Int}(h1:1<=q)(h2:q<=1099511627775)(h3:0<=g)(h4:g<=16777215):(gA q g).may=true∧zW (gA q g):=by
 refine⟨?_,by show(0:Int)<=0;omega,by show(0:Int)<18446744073709551616;omega⟩;unfold Hd.may gA;simp;omega
structure NP where
 p:Nat
 q:Int
 ns:List Nt
def NP.ok(x:NP)(Z:Nat):Prop:=x.ns≠[]∧(∀n∈x.ns,n.vg∧n.ok=true)∧(dB x.ns).length<=Z∧x.ns.length<=1000
def su(T:List az)(n:Nt):List az:=if n.gone then iO T n.e.addr else fV T n.e
def aI(T:List az)(ns:List Nt):List az:=ns.foldl su T
theorem fk(T:List az)(a b:List Nt):aI T (a++b)=aI (aI T a) b:=by simp[aI]
theorem Kd{T:List az}(h:eU T)(n:Nt):eU (su T n):=by
 unfold su;split
 ·exact h.drop _
 ·exact h.put _
theorem qA{T:List az}(h:eU T)(ns:List Nt):eU (aI T ns):=by
 induction ns generalizing T with
 |nil=>exact h
 |cons n ns ih=>exact ih (Kd h n)
def ZK(c:CM)(N Z:Nat)(g:Int):Prop:=
 ∃(nm:List UInt8) (es:List az) (q:Int) (i0:Nat),yZ nm∧dd es∧es.length<=64∧i0<aM Z es.length∧
  (∀(n:Nat) d h,n<N->c.vN n=some (d,h)->h.k=4->h.g=g->∃i:Nat,i<aM Z es.length∧i≠i0∧h.s=q+i∧d=cW Z nm es i)∧
  (∀(n m:Nat) d h d' h',n<N->m<N->c.vN n=some (d,h)->c.vN m=some (d',h')->h.k=4->h.g=g->h'.k=4->h'.g=g->h.s=h'.s->n=m)
theorem ZK.sub{N Z:Nat}{g:Int}(h:ZK c N Z g)(hv:∀(n:Nat) d x,n<N->c'.vN n=some (d,x)->x.k=4->x.g=g->c.vN n=some (d,x)):ZK c' N Z g:=by
 obtain⟨nm,es,q,i0,h1,h2,h3,h4,h5,h6⟩:=h;exact⟨nm,es,q,i0,h1,h2,h3,h4,fun n d x hn hx a b=>h5 n d x hn (hv n d x hn hx a b) a b,fun n m d x d' x' hn hm hx qN a b a' b'=>h6 n m d x d' x' hn hm (hv n d x hn hx a b) (hv m d' x' hm qN a' b') a b a' b'⟩
theorem ZK.none{N Z:Nat}{g:Int}{nm:List UInt8}(hl:yZ nm)(h:∀(n:Nat) d x,n<N->c.vN n=some (d,x)->x.k=4->x.g=g->False):ZK c N Z g:=
 ⟨nm,[],0,0,hl,tE,by simp,jB _ _,fun n d x hn hx a b=>(h n d x hn hx a b).elim,fun n m d x d' x' hn hm hx qN a b _ _ _=>(h n d x hn hx a b).elim⟩
structure uA(c:CM)(N Z:Nat)(nm:List UInt8)(g:Int)(es:List az)(bK:List Nat)(nps:List NP)(q0 last aj:Int):Prop where
 low:yZ nm
 lA:dd es
 len:es.length<=64
 cl:bK.length=aM Z es.length
 cv:∀i (h:i<bK.length),bK[i]<N∧c.vN bK[i]=some (cW Z nm es i,fh (q0+i) g)
 nv:∀x∈nps,x.p<N∧c.vN x.p=some (eX x.ns Z,gA x.q g)∧x.ok Z
 nr:nps.Pairwise fun x y=>x.q<y.q
 D0:∀(n:Nat) d h,n<N->c.vN n=some (d,h)->h.k=4->h.g=g->n∈bK
 ZL:∀(n:Nat) d h,n<N->c.vN n=some (d,h)->h.k=3->h.g=g->n∈nps.map (·.p)
 part:∀g',g<g'->ZK c N Z g'
 le:∀(n:Nat) d h,n<N->c.vN n=some (d,h)->h.s<=last∧h.g<=aj
 g0:0<=g
 gt:g<=aj
 l0:0<=last
section
variable{N Z:Nat}{nm:List UInt8}{g q0 last aj:Int}{es:List az}{bK:List Nat}{nps:List NP}
theorem uA.step(h:uA c N Z nm g es bK nps q0 last aj){vY yi:Int}(hk:∀n∈bK++nps.map (·.p),c'.vN n=c.vN n)
  (hv:∀(n:Nat) d x,n<N->c'.vN n=some (d,x)->c.vN n=some (d,x)∨(x.k≠3∧x.k≠4∧x.s<=vY∧x.g<=yi))(hl:last<=vY)(ht:aj<=yi):uA c' N Z nm g es bK nps q0 vY yi:=by
 refine⟨h.low,h.lA,h.len,h.cl,?_,?_,h.nr,?_,?_,?_,?_,h.g0,by have:=h.gt;omega,by have:=h.l0;omega⟩
 ·intro i hi;rw[hk _ (ib _ (cX hi))];exact h.cv i hi
 ·intro x hx;rw[hk _ (gr _ (List.mem_map.2 ⟨x,hx,rfl⟩))];exact h.nv x hx
 ·intro n d x hn hx a b;rcases hv n d x hn hx with e|⟨_,e,_⟩
  ·exact h.D0 n d x hn e a b
  ·exact absurd a e
 ·intro n d x hn hx a b;rcases hv n d x hn hx with e|⟨e,_,_⟩
  ·exact h.ZL n d x hn e a b
  ·exact absurd a e
 ·intro g' hg;refine(h.part g' hg).sub fun n d x hn hx a b=>?_;rcases hv n d x hn hx with e|⟨_,e,_⟩
  ·exact e
  ·exact absurd a e
 ·intro n d x hn hx;rcases hv n d x hn hx with e|⟨_,_,e,e2⟩
  ·have:=h.le n d x hn e;omega
  ·exact⟨e,e2⟩
theorem uA.shrink(h:uA c N Z nm g es bK nps q0 last aj){vY yi:Int}(hk:∀n∈bK++nps.map (·.p),c'.vN n=c.vN n)
  (hv:∀(n:Nat) v,n<N->c'.vN n=some v->c.vN n=some v)(hl:last<=vY)(ht:aj<=yi):uA c' N Z nm g es bK nps q0 vY yi:=h.step hk (fun n d x hn hx=>aQ (hv n _ hn hx)) hl ht
theorem uA.note(h:uA c N Z nm g es bK nps q0 last aj){n:Nat}{ns:List Nt}(hn:n<N)(hk:∀m∈bK++nps.map (·.p),c'.vN m=c.vN m)(hv:c'.vN n=some (eX ns Z,gA (last+1) g))
  (ho:∀(m:Nat) v,m<N->c'.vN m=some v->m=n∨c.vN m=some v)(cj:(NP.mk n (last+1) ns).ok Z):uA c' N Z nm g es bK (nps++[⟨n,last+1,ns⟩]) q0 (last+1) aj:=by
 refine⟨h.low,h.lA,h.len,h.cl,?_,?_,?_,?_,?_,?_,?_,h.g0,h.gt,by have:=h.l0;omega⟩
 ·intro i hi;rw[hk _ (ib _ (cX hi))];exact h.cv i hi
 ·intro x hx;rcases List.mem_append.1 hx with hx|hx
  ·rw[hk _ (gr _ (List.mem_map.2 ⟨x,hx,rfl⟩))];exact h.nv x hx
  ·rw[List.mem_singleton.1 hx];exact⟨hn,hv,cj⟩
 ·rw[List.pairwise_append];refine⟨h.nr,List.pairwise_singleton _ _,fun x hx y hy=>?_⟩;rw[List.mem_singleton.1 hy];obtain⟨a1,a2,_⟩:=h.nv x hx;have:=(h.le _ _ _ a1 a2).1;show x.q<last+1;have e:(gA x.q g).s=x.q:=rfl;omega
 ·intro m d x hm hx a b;rcases ho m _ hm hx with rfl|e
  ·rw[hv]at hx;injection hx with hx;injection hx with h1 h2;rw[<-h2]at a;exact absurd a (by show(3:Int)≠4;decide)
  ·exact h.D0 m d x hm e a b
 ·intro m d x hm hx a b;rw[dm];rcases ho m _ hm hx with rfl|e
  ·exact gr _ (by simp)
  ·exact ib _ (h.ZL m d x hm e a b)
 ·intro g' hg;refine(h.part g' hg).sub fun m d x hm hx a b=>?_;rcases ho m _ hm hx with rfl|e
  ·rw[hv]at hx;injection hx with hx;injection hx with h1 h2;rw[<-h2]at a;exact absurd a (by show(3:Int)≠4;decide)
  ·exact e
 ·intro m d x hm hx;rcases ho m _ hm hx with rfl|e
  ·rw[hv]at hx;injection hx with hx;injection hx with h1 h2;rw[<-h2];exact⟨bG _,h.gt⟩
  ·have:=h.le m d x hm e;omega
structure SO(c:CM)(N Z:Nat)(nm:List UInt8)(g:Int)(es:List az)(bK:List Nat)(nps:List NP)(q0:Int)(T:List az)(g1 q1:Int)(put:List Nat):Prop where
 kX:uA c N Z nm g es bK nps q0 (q1+put.length-1) g1
 lA:dd T
 len:T.length<=64
 lt:put.length<aM Z T.length
 pv:∀i (h:i<put.length),put[i]<N∧c.vN put[i]=some (cW Z nm T i,fh (q1+i) g1)
 D0:∀(n:Nat) d h,n<N->c.vN n=some (d,h)->h.k=4->h.g=g1->n∈put
 ZL:∀(n:Nat) d h,n<N->c.vN n=some (d,h)->h.k=3->h.g≠g1
 gg:g<g1
variable{T:List az}{g1 q1:Int}{put:List Nat}
theorem SO.start(h:uA c N Z nm g es bK nps q0 last aj)(hr:dd T)(hl:T.length<=64):SO c N Z nm g es bK nps q0 T (aj+1) (last+1) []:=by
 refine⟨h.step (fun _ _=>rfl) (fun _ _ _ _ hx=>aQ hx) (by simp) (by omega),hr,hl,jB _ _,fun i hi=>absurd hi (by simp),?_,?_,by have:=h.gt;omega⟩
 ·intro n d x hn hx a b;have:=(h.le n d x hn hx).2;omega
 ·intro n d x hn hx a;have:=(h.le n d x hn hx).2;omega
theorem SO.shrink(h:SO c N Z nm g es bK nps q0 T g1 q1 put){vY:Int}(hk:∀n∈bK++nps.map (·.p),c'.vN n=c.vN n)
  (hv:∀(n:Nat) v,n<N->c'.vN n=some v->c.vN n=some v)(hl:q1+put.length-1<=vY):uA c' N Z nm g es bK nps q0 vY g1:=h.kX.shrink hk hv hl (bG _)
theorem SO.more(h:SO c N Z nm g es bK nps q0 T g1 q1 put){n:Nat}(hn:n<N)(lX:n∉bK++nps.map (·.p))(hk:∀m∈bK++nps.map (·.p),c'.vN m=c.vN m)(hp:∀m∈put,c'.vN m=c.vN m)
  (hv:c'.vN n=some (cW Z nm T put.length,fh (q1+put.length) g1))(ho:∀(m:Nat) v,m<N->c'.vN m=some v->m=n∨c.vN m=some v)(aG:put.length+1<aM Z T.length):
  SO c' N Z nm g es bK nps q0 T g1 q1 (put++[n]):=by
 have OA:∀i (hi:i<(put++[n]).length),(put++[n])[i]<N∧c'.vN (put++[n])[i]=some (cW Z nm T i,fh (q1+i) g1):=by
  intro i hi;by_cases e:i<put.length
  ·rw[Ev e,hp _ (cX e)];exact h.pv i e
  ·have:i=put.length:=by simp at hi;omega
   subst this;rw[List.getElem_append_right (aN _)];simp only[qg,List.getElem_cons_zero];exact⟨hn,hv⟩
 have hsg:∀(m:Nat) d x,m<N->c'.vN m=some (d,x)->x.k=4->x.g=g1->m∈put++[n]:=by
  intro m d x hm hx a b;rcases ho m _ hm hx with rfl|e
  ·simp
  ·exact ib _ (h.D0 m d x hm e a b)
 have C:=h.kX;have On:(put++[n]).length=put.length+1:=by simp
 refine⟨⟨C.low,C.lA,C.len,C.cl,?_,?_,C.nr,?_,?_,?_,?_,C.g0,C.gt,by rw[On];have:=C.l0;omega⟩,h.lA,h.len,by rw[On];exact aG,OA,hsg,?_,h.gg⟩
 ·intro i hi;rw[hk _ (ib _ (cX hi))];exact C.cv i hi
 ·intro x hx;rw[hk _ (gr _ (List.mem_map.2 ⟨x,hx,rfl⟩))];exact C.nv x hx
 ·intro m d x hm hx a b;rcases ho m _ hm hx with rfl|e
  ·rw[hv]at hx;injection hx with hx;injection hx with h1 h2;rw[<-h2]at b;have:g1=g:=b;have:=h.gg;omega
  ·exact C.D0 m d x hm e a b
 ·intro m d x hm hx a b;rcases ho m _ hm hx with rfl|e
  ·rw[hv]at hx;injection hx with hx;injection hx with h1 h2;rw[<-h2]at a;exact absurd a (by show(4:Int)≠3;decide)
  ·exact C.ZL m d x hm e a b
 ·intro g' hg;by_cases e:g'=g1
  ·subst e;refine⟨nm,T,q1,put.length+1,C.low,h.lA,h.len,aG,?_,?_⟩
   ·intro m d x hm hx a b;obtain⟨i,hi,rfl⟩:=List.getElem_of_mem (hsg m d x hm hx a b);rw[(OA i hi).2]at hx;injection hx with hx;injection hx with h1 h2;rw[On]at hi;exact⟨i,by omega,by omega,by rw[<-h2];rfl,h1.symm⟩
   ·intro m m' d x d' x' hm uy hx qN a b a' b' e;obtain⟨i,hi,rfl⟩:=List.getElem_of_mem (hsg m d x hm hx a b);obtain⟨j,hj,rfl⟩:=List.getElem_of_mem (hsg m' d' x' uy qN a' b');rw[(OA i hi).2]at hx;rw[(OA j hj).2]at qN;injection hx with hx;injection hx with h1 h2;injection qN with qN;injection qN with DH Tt;rw[<-h2,<-Tt]at e;have:q1+(i:Int)=q1+j:=e;obtain rfl:i=j:=by omega
    rfl
  ·refine(C.part g' hg).sub fun m d x hm hx a b=>?_;rcases ho m _ hm hx with rfl|e2
   ·rw[hv]at hx;injection hx with hx;injection hx with h1 h2;rw[<-h2]at b;exact absurd b.symm e
   ·exact e2
 ·intro m d x hm hx;rcases ho m _ hm hx with rfl|e
  ·rw[hv]at hx;injection hx with hx;injection hx with h1 h2
   rw[<-h2,On];refine⟨?_,bG _⟩;show q1+(put.length:Int)<=_;omega
  ·have:=C.le m d x hm e;rw[On];omega
 ·intro m d x hm hx a;rcases ho m _ hm hx with rfl|e
  ·rw[hv]at hx;injection hx with hx;injection hx with h1 h2;rw[<-h2]at a;exact absurd a (by show(4:Int)≠3;decide)
  ·exact h.ZL m d x hm e a
theorem SO.aas(h:SO c N Z nm g es bK nps q0 T g1 q1 put){n:Nat}(hn:n<N)(hp:∀m∈put,c'.vN m=c.vN m)
  (hv:c'.vN n=some (cW Z nm T put.length,fh (q1+put.length) g1))(ho:∀(m:Nat) v,m<N->c'.vN m=some v->m=n∨c.vN m=some v)(aG:put.length+1=aM Z T.length):
  uA c' N Z nm g1 T (put++[n]) [] q1 (q1+put.length) g1:=by
 have C:=h.kX;have On:(put++[n]).length=put.length+1:=by simp
 refine⟨C.low,h.lA,h.len,by rw[On];exact aG,?_,fun x hx=>absurd hx (by simp),List.Pairwise.nil,?_,?_,?_,?_,by have:=C.g0;have:=h.gg;omega,bG _,by have:=C.l0;omega⟩
 ·intro i hi;by_cases e:i<put.length
  ·rw[Ev e,hp _ (cX e)];exact h.pv i e
  ·have:i=put.length:=by simp at hi;omega
   subst this;rw[List.getElem_append_right (aN _)];simp only[qg,List.getElem_cons_zero];exact⟨hn,hv⟩
 ·intro m d x hm hx a b;rcases ho m _ hm hx with rfl|e
  ·simp
  ·exact ib _ (h.D0 m d x hm e a b)
 ·intro m d x hm hx a b;rcases ho m _ hm hx with rfl|e
  ·rw[hv]at hx;injection hx with hx;injection hx with h1 h2;rw[<-h2]at a;exact absurd a (by show(4:Int)≠3;decide)
  ·exact absurd b (h.ZL m d x hm e a)
 ·intro g' hg;refine ZK.none C.low fun m d x hm hx a b=>?_;rcases ho m _ hm hx with rfl|e
  ·rw[hv]at hx;injection hx with hx;injection hx with h1 h2;rw[<-h2]at b;have:g1=g':=b;omega
  ·have:=(C.le m d x hm e).2;omega
 ·intro m d x hm hx;rcases ho m _ hm hx with rfl|e
  ·rw[hv]at hx;injection hx with hx;injection hx with h1 h2
   rw[<-h2];exact⟨bG _,bG _⟩
  ·have:=C.le m d x hm e;omega
end
end
section
variable{s s':SM}{c c':CM}
structure LM where
 name:List UInt8
 gen:Int
 aj:Int
 last:Int
 ad:List Nat
 T:List az
def lV(Z:Nat)(nm:List UInt8)(es:List az):List (List UInt8):=(List.range (aM Z es.length)).map (cW Z nm es)
def jg:List (List UInt8)->LM->SM->CM->List Nat->LM×SM×CM×List Nat×Int
 |[],l,s,c,put=>(l,s,c,put,0)
 |b::bs,l,s,c,put=>
  if(bn s c (fh (l.last+1) l.aj) b).2.2.2≠0 then({l with last:=l.last+1},dI (bn s c (fh (l.last+1) l.aj) b).1 put,(bn s c (fh (l.last+1) l.aj) b).2.1,put,(bn s c (fh (l.last+1) l.aj) b).2.2.2)
  else jg bs {l with last:=l.last+1} (bn s c (fh (l.last+1) l.aj) b).1 (bn s c (fh (l.last+1) l.aj) b).2.1 (put++[(bn s c (fh (l.last+1) l.aj) b).2.2.1.toNat])
def uh(l:LM)(r:LM×SM×CM×List Nat×Int):LM×SM×CM×Int:=
 if r.2.2.2.2≠0 then(r.1,r.2.1,r.2.2.1,r.2.2.2.2)else({r.1 with ad:=r.2.2.2.1,gen:=r.1.aj},dI r.2.1 l.ad,r.2.2.1,0)
def aH(l:LM)(s:SM)(c:CM):LM×SM×CM×Int:=uh l (jg (lV s.Z l.name l.T) {l with aj:=l.aj+1} s c [])
def jI(Z:Nat):List (List Nt)->LM->SM->CM->LM×SM×CM×Int
 |[],l,s,c=>(l,s,c,0)
 |ch::eA,l,s,c=>
  if(bn s c (gA (l.last+1) l.gen) (eX ch Z)).2.2.2≠0 then({l with last:=l.last+1},(bn s c (gA (l.last+1) l.gen) (eX ch Z)).1,(bn s c (gA (l.last+1) l.gen) (eX ch Z)).2.1,(bn s c (gA (l.last+1) l.gen) (eX ch Z)).2.2.2)
  else jI Z eA {l with last:=l.last+1,ad:=l.ad++[(bn s c (gA (l.last+1) l.gen) (eX ch Z)).2.2.1.toNat],T:=aI l.T ch} (bn s c (gA (l.last+1) l.gen) (eX ch Z)).1 (bn s c (gA (l.last+1) l.gen) (eX ch Z)).2.1
structure Jg(s:SM)(c:CM)(N Z:Nat)(own:List Nat):Prop where
 cont:aV s c
 N:s.B*s.P=N
 Z:s.Z=Z
 has:∀n∈own,∃h,aq s.hs (n:Int)=some h∧(h.k=3∨h.k=4)
 Av:∀n h,aq s.hs n=some h->h.k=3∨h.k=4->∃m∈own,n=(m:Nat)
 nd:own.Nodup
structure mc(s:SM)(c:CM)(s':SM)(c':CM):Prop where
 B:s'.B=s.B
 P:s'.P=s.P
 Z:s'.Z=s.Z
 kT:c'.bZ=c.bZ
 ms:c'.ms=c.ms
 fw:∀(n:Nat) h,aq s.hs (n:Int)=some h->h.k≠3->h.k≠4->aq s'.hs (n:Int)=some h∧c'.vN n=c.vN n
 bw:∀(n:Nat) h,aq s'.hs (n:Int)=some h->h.k≠3->h.k≠4->aq s.hs (n:Int)=some h
theorem mc.refl(s:SM)(c:CM):mc s c s c:=⟨rfl,rfl,rfl,rfl,rfl,fun _ _ h _ _=>⟨h,rfl⟩,fun _ _ h _ _=>h⟩
theorem mc.trans{s1 s2 s3:SM}{c1 c2 c3:CM}(h:mc s1 c1 s2 c2)(g:mc s2 c2 s3 c3):mc s1 c1 s3 c3:=by
 refine⟨g.B.trans h.B,g.P.trans h.P,g.Z.trans h.Z,g.kT.trans h.kT,g.ms.trans h.ms,?_,fun n x hx a b=>h.bw n x (g.bw n x hx a b) a b⟩;intro n x hx a b;obtain⟨h1,h2⟩:=h.fw n x hx a b;obtain⟨h3,h4⟩:=g.fw n x h1 a b;exact⟨h3,h4.trans h2⟩
theorem Jg.UX{N Z:Nat}{a b:List Nat}(I:Jg s c N Z (a++b)):Jg (dI s b) c N Z a∧(Live s c->Live (dI s b) c)∧mc s c (dI s b) c:=by
 have D:=yh b s I.cont (List.nodup_append.1 I.nd).2.1 fun n hn=>by obtain⟨h,e,_⟩:=I.has n (gr _ hn);rw[e];rfl
 have Qj:∀n∈a,n∉b:=fun n hn hb=>(List.nodup_append.1 I.nd).2.2 n hn n hb rfl;refine⟨⟨D.cont,by rw[D.B,D.P];exact I.N,D.Z.trans I.Z,?_,?_,(List.nodup_append.1 I.nd).1⟩,D.live,⟨D.B,D.P,D.Z,rfl,rfl,?_,?_⟩⟩
 ·intro n hn;rw[D.stay n fun⟨m,hm,e⟩=>Qj n hn (by have:n=m:=(by omega);rw[this];exact hm)];exact I.has n (ib _ hn)
 ·intro n h hl hk;by_cases e:∃m∈b,n=(m:Nat)
  ·rw[D.gone n e]at hl;exact absurd hl (by simp)
  ·rw[D.stay n e]at hl;obtain⟨m,hm,e2⟩:=I.Av n h hl hk;rcases List.mem_append.1 hm with h1|h1
   ·exact⟨m,h1,e2⟩
   ·exact absurd ⟨m,h1,e2⟩ e
 ·intro n h hl h3 h4;refine⟨?_,rfl⟩;by_cases e:∃m∈b,(n:Int)=(m:Nat)
  ·exfalso;obtain⟨m,hm,e2⟩:=e;obtain⟨x,hx,hk⟩:=I.has m (gr _ hm);rw[<-e2,hl]at hx;injection hx with hx;rw[<-hx]at hk;omega
  ·rw[D.stay n e];exact hl
 ·intro n h hl h3 h4;by_cases e:∃m∈b,(n:Int)=(m:Nat)
  ·rw[D.gone n e]at hl;exact absurd hl (by simp)
  ·rw[D.stay n e]at hl;exact hl
theorem Jg.look{N Z:Nat}{own:List Nat}(I:Jg s c N Z own){n:Nat}(hn:n∈own):∃h d,aq s.hs (n:Int)=some h∧c.vN n=some (d,h)∧n<N:=by
 obtain⟨h,hh,_⟩:=I.has n hn;obtain⟨m,e,hm,d,hd⟩:=I.cont.has hh;obtain rfl:n=m:=by omega
 exact⟨h,d,hh,hd,by rw[<-I.N];exact hm⟩
theorem Jg.put{N Z:Nat}{own:List Nat}(I:Jg s c N Z own)(hL:Live s c){h:Hd}{d:List UInt8}(hk:h.k=3∨h.k=4){r:SM×CM×Int×Int}(P:acn s c d h r):
  mc s c r.1 r.2.1∧(∀n∈own,r.2.1.vN n=c.vN n)∧aV r.1 r.2.1∧r.1.B*r.1.P=N∧r.1.Z=Z∧
  ((r.2.2.2=0∧∃n:Nat,n<N∧r.2.2.1.toNat=n∧r.2.2.1=n∧n∉own∧(Jg r.1 r.2.1 N Z (own++[n])∧Live r.1 r.2.1)∧r.2.1.vN n=some (d,h)∧∀(m:Nat) v,m<N->r.2.1.vN m=some v->m=n∨c.vN m=some v)∨
   (r.2.2.2=7∧(Jg r.1 r.2.1 N Z own∧Live r.1 r.2.1)∧∀(m:Nat) v,m<N->r.2.1.vN m=some v->c.vN m=some v)∨
   (r.2.2.2=4∧r.2.1.on=false∧(∃m∈c.ms,m.kind=2)∧Jg r.1 r.2.1 N Z own∧∃n:Nat,n∉own∧∀(m:Nat) v,m<N->r.2.1.vN m=some v->c.vN m=some v∨(m=n∧v=(d,h)))):=by
 have hN:s.B*s.P=N:=I.N;have hN':r.1.B*r.1.P=N:=by rw[P.B,P.P];exact hN
 have WI:∀n∈own,r.2.1.vN n=c.vN n:=fun n hn=>by
  obtain⟨x,y,a,_⟩:=I.look hn;exact P.keep n x a
 have hZ:r.1.Z=Z:=P.Z.trans I.Z;rcases P.Bd with⟨w1,w2,n,w3,w4,w5,w6,w7,w8⟩|⟨w1,w2,w3,w4⟩|⟨w1,w2,w3,w4,n,w5⟩
 ·have lX:n∉own:=fun hn=>by obtain⟨x,y,a,_⟩:=I.look hn;rw[a]at w5;exact absurd w5 (by simp)
  refine⟨⟨P.B,P.P,P.Z,P.kT,P.ms,?_,?_⟩,WI,P.cont,hN',hZ,aQ ⟨w1,n,by rw[<-hN];exact w3,by rw[w4];rfl,w4,lX,⟨⟨P.cont,hN',hZ,?_,?_,?_⟩,w2⟩,w7,fun m v hm=>w8 m v (by rw[hN];exact hm)⟩⟩
  ·intro m x hx _ _;refine⟨?_,P.keep m x hx⟩;rw[w6,if_neg (fun e=>by rw[e,w5]at hx;exact absurd hx (by simp))];exact hx
  ·intro m x hx a b;rw[w6]at hx;split at hx
   ·injection hx with hx;rw[<-hx]at a b;rcases hk with h|h
    ·exact absurd h a
    ·exact absurd h b
   ·exact hx
  ·intro m hm;rw[w6];by_cases e:(m:Int)=n
   ·rw[if_pos e];exact⟨h,rfl,hk⟩
   ·rw[if_neg e];rcases List.mem_append.1 hm with h1|h1
    ·exact I.has m h1
    ·exact absurd (congrArg Int.ofNat (List.mem_singleton.1 h1)) e
  ·intro m x hx qO;rw[w6]at hx;split at hx
   ·next e=>exact⟨n,by simp,e⟩
   ·obtain⟨j,hj,e⟩:=I.Av m x hx qO;exact⟨j,ib _ hj,e⟩
  ·rw[List.nodup_append];exact⟨I.nd,by simp,fun a ha b hb e=>lX (by rw[<-List.mem_singleton.1 hb,<-e];exact ha)⟩
 ·refine⟨⟨P.B,P.P,P.Z,P.kT,P.ms,fun m x hx _ _=>⟨by rw[w3];exact hx,P.keep m x hx⟩,fun m x hx _ _=>by rw[w3]at hx;exact hx⟩,WI,P.cont,hN',hZ,aE (aQ ⟨w1,⟨⟨P.cont,hN',hZ,by rw[w3];exact I.has,by rw[w3];exact I.Av,I.nd⟩,w2⟩,fun m v hm=>w4 m v (by rw[hN];exact hm)⟩)⟩
 ·refine⟨⟨P.B,P.P,P.Z,P.kT,P.ms,fun m x hx _ _=>⟨by rw[w3];exact hx,P.keep m x hx⟩,fun m x hx _ _=>by rw[w3]at hx;exact hx⟩,WI,P.cont,hN',hZ,aE (aE ⟨w1,w2,w4,⟨P.cont,hN',hZ,by rw[w3];exact I.has,by rw[w3];exact I.Av,I.nd⟩,?_⟩)⟩;by_cases lX:n∈own
  ·refine⟨N,?_,fun m v hm hv=>?_⟩
   ·intro hc;obtain⟨_,_,_,_,h2⟩:=I.look hc;omega
   ·rcases w5 m v (by rw[hN];exact hm) hv with e|⟨e1,e2,_⟩
    ·exact aQ e
    ·obtain⟨x,y,a,_⟩:=I.look lX;rw[e1,a]at e2;exact absurd e2 (by simp)
  ·refine⟨n,lX,fun m v hm hv=>?_⟩;rcases w5 m v (by rw[hN];exact hm) hv with e|⟨e1,_,e3⟩
   ·exact aQ e
   ·exact aE ⟨e1,e3⟩
structure z7(l:LM)(s:SM)(c:CM)(es:List az)(bK:List Nat)(nps:List NP)(q0:Int):Prop where
 live:Live s c
 sin:Jg s c (s.B*s.P) s.Z l.ad
 kX:uA c (s.B*s.P) s.Z l.name l.gen es bK nps q0 l.last l.aj
 pg:l.ad=bK++nps.map (·.p)
 Iz:l.T=aI es (nps.map (·.ns)).flatten
 lA:dd l.T
 len:l.T.length<=64
def pz(c:CM)(N Z:Nat)(nm:List UInt8)(T:List az)(q t:Int):Prop:=
 dd T∧T.length<=64∧∃g es bK nps q0 last aj,uA c N Z nm g es bK nps q0 last aj∧aI es (nps.map NP.ns).flatten=T∧last<=q∧aj<=t
theorem pz.mono{N Z:Nat}{nm:List UInt8}{T:List az}{q t q' t':Int}(h:pz c N Z nm T q t)(hq:q<=q')(ht:t<=t'):pz c N Z nm T q' t':=by
 obtain⟨h1,h2,g,es,bK,nps,q0,last,aj,h3,h4,h5,h6⟩:=h;exact⟨h1,h2,g,es,bK,nps,q0,last,aj,h3,h4,by omega,by omega⟩
theorem z7.OV{l:LM}{es:List az}{bK:List Nat}{nps:List NP}{q0:Int}(I:z7 l s c es bK nps q0):pz c (s.B*s.P) s.Z l.name l.T l.last l.aj:=
 ⟨I.lA,I.len,_,_,_,_,_,_,_,I.kX,I.Iz.symm,bG _,bG _⟩
theorem wP{es:List az}{bK:List Nat}{q0:Int}:∀(eA:List (List Nt)) (l:LM) (s:SM) (c:CM) (nps:List NP),z7 l s c es bK nps q0->(∀ch∈eA,(NP.mk 0 0 ch).ok s.Z)->
  (∀k,k<=eA.length->dd (aI l.T (eA.take k).flatten)∧(aI l.T (eA.take k).flatten).length<=64)->l.last+eA.length<=1099511627775->l.aj<=16777215->
  mc s c (jI s.Z eA l s c).2.1 (jI s.Z eA l s c).2.2.1∧
  (((jI s.Z eA l s c).2.2.2=0∧(∃Mk,z7 (jI s.Z eA l s c).1 (jI s.Z eA l s c).2.1 (jI s.Z eA l s c).2.2.1 es bK Mk q0)∧(jI s.Z eA l s c).1.T=aI l.T eA.flatten∧(jI s.Z eA l s c).1.ad.length=l.ad.length+eA.length∧
    (jI s.Z eA l s c).1.name=l.name∧(jI s.Z eA l s c).1.gen=l.gen∧(jI s.Z eA l s c).1.aj=l.aj∧(jI s.Z eA l s c).1.last=l.last+eA.length)∨
   ((jI s.Z eA l s c).2.2.2=7∧∃k,k<eA.length∧(∃Mk,z7 (jI s.Z eA l s c).1 (jI s.Z eA l s c).2.1 (jI s.Z eA l s c).2.2.1 es bK Mk q0)∧(jI s.Z eA l s c).1.T=aI l.T (eA.take k).flatten∧
    (jI s.Z eA l s c).1.name=l.name∧(jI s.Z eA l s c).1.gen=l.gen∧(jI s.Z eA l s c).1.aj=l.aj∧(jI s.Z eA l s c).1.last<=l.last+eA.length)∨
   ((jI s.Z eA l s c).2.2.2=4∧(jI s.Z eA l s c).2.2.1.on=false∧(∃m∈c.ms,m.kind=2)∧aV (jI s.Z eA l s c).2.1 (jI s.Z eA l s c).2.2.1∧∃k,k<=eA.length∧pz (jI s.Z eA l s c).2.2.1 (s.B*s.P) s.Z l.name (aI l.T (eA.take k).flatten) (l.last+eA.length) l.aj))
 |[],l,s,c,nps,I,cj,hr,h1,h2=>⟨mc.refl s c,aQ ⟨rfl,⟨nps,I⟩,rfl,rfl,rfl,rfl,rfl,by show l.last=l.last+((0:Nat):Int);omega⟩⟩
 |ch::eA,l,s,c,nps,I,cj,hr,h1,h2=>by
  have ik:=bO I.sin.cont.pl;have C:=I.kX;have cz:=cj ch dC;have bm:(ch::eA).length=eA.length+1:=rfl;rw[bm]at h1;obtain⟨m1,m2⟩:=oP (q:=l.last+1) (g:=l.gen) (by have:=C.l0;omega) (by omega) C.g0 (by have:=C.gt;omega);have Q:=xU (d:=eX ch s.Z) I.sin.cont I.live m1 m2 (nY cz.2.2.1);obtain⟨q1,q2,q3,q4,q5,q6⟩:=I.sin.put I.live (aQ rfl) Q;rw[I.pg]at q2;rw[jI];generalize bn s c (gA (l.last+1) l.gen) (eX ch s.Z)=r at*;rcases q6 with⟨w1,n,w2,w3,_,w4,⟨w5,wL⟩,w6,w7⟩|⟨w1,⟨w2,wL⟩,w3⟩|⟨w1,w2,w3,wS,n,w4,w5⟩
  ·rw[if_neg (by omega),w3];have hI:z7 {l with last:=l.last+1,ad:=l.ad++[n],T:=aI l.T ch} r.1 r.2.1 es bK (nps++[⟨n,l.last+1,ch⟩]) q0:=by
    refine⟨wL,by rw[q4,q5];exact w5,?_,?_,?_,?_,?_⟩
    ·rw[q4,q5];exact C.note w2 q2 w6 w7 cz
    ·show l.ad++[n]=_;rw[I.pg,dm,cE];rfl
    ·show aI l.T ch=_;rw[I.Iz,dm,qe,fk];simp
    ·have:=(hr 1 (by omega)).1;simpa using this
    ·have:=(hr 1 (by omega)).2;simpa using this
   have hih:=wP eA _ r.1 r.2.1 _ hI (fun x hx=>by rw[q5];exact cj x (fA _ hx)) (fun k hk=>by
    have:=hr (k+1) (by omega);rw[zc,kr,fk]at this;exact this) (by show l.last+1+(eA.length:Int)<=_;omega) h2
   rw[q5]at hih;rw[q4]at hih;generalize jI s.Z eA {l with last:=l.last+1,ad:=l.ad++[n],T:=aI l.T ch} r.1 r.2.1=y at*;obtain⟨d1,d2⟩:=hih;refine⟨q1.trans d1,?_⟩;rcases d2 with⟨e1,e2,e3,e4,e5,e6,e7,e8⟩|⟨e1,k,e2,e3,e4,e5,e6,e7,e8⟩|⟨e1,e2,e3,e4,k,e5,e6⟩
   ·refine aQ ⟨e1,e2,by rw[e3,kr,fk],?_,e5,e6,e7,?_⟩
    ·rw[e4,bm];show(l.ad++[n]).length+eA.length=_;rw[aY,mT];omega
    ·rw[e8,bm];show l.last+1+(eA.length:Int)=_;omega
   ·refine aE (aQ ⟨e1,k+1,by omega,e3,by rw[e4,zc,kr,fk],e5,e6,e7,?_⟩);have e9:(y.1.last:Int)<=l.last+1+(eA.length:Int):=e8;rw[bm];omega
   ·refine aE (aE ⟨e1,e2,by rw[<-Q.ms];exact e3,e4,k+1,by omega,?_⟩);rw[zc,kr,fk];exact e6.mono (by rw[bm];show l.last+1+(eA.length:Int)<=_;omega) (bG _)
  ·rw[if_pos (by omega)];refine⟨q1,aE (aQ ⟨w1,0,by omega,⟨nps,⟨wL,by rw[q4,q5];exact w2,?_,I.pg,I.Iz,I.lA,I.len⟩⟩,rfl,rfl,rfl,rfl,by show l.last+1<=_;omega⟩)⟩;rw[q4,q5];exact C.shrink q2 w3 (by show l.last<=l.last+1;omega) (bG _)
  ·rw[if_pos (by omega)];refine⟨q1,aE (aE ⟨w1,w2,w3,q3,?_⟩)⟩;dsimp only;by_cases hv:n<s.B*s.P∧r.2.1.vN n=some (eX ch s.Z,gA (l.last+1) l.gen)
   ·refine⟨1,by omega,?_,?_,?_⟩
    ·exact(hr 1 (by omega)).1
    ·exact(hr 1 (by omega)).2
    ·refine⟨_,_,_,_,_,_,_,C.note hv.1 q2 hv.2 (fun m v hm hx=>(w5 m v hm hx).symm.imp (fun e=>e.1) id) cz,?_,by rw[bm];omega,bG _⟩;rw[I.Iz,dm,qe,fk];simp
   ·refine⟨0,by omega,?_,?_,?_⟩
    ·exact(hr 0 (by omega)).1
    ·exact(hr 0 (by omega)).2
    ·refine⟨_,_,_,_,_,_,_,C.shrink q2 (fun m v hm hx=>?_) (bG _) (bG _),I.Iz.symm,by rw[bm];omega,bG _⟩;rcases w5 m v hm hx with e|⟨e1,e2⟩
     ·exact e
     ·exact absurd ⟨by rw[<-e1];exact hm,by rw[<-e1,<-e2];exact hx⟩ hv
def ajk(l:LM)(s0:SM)(c0:CM)(N Z:Nat)(ad:List Nat)(es:List az)(bK:List Nat)(nps:List NP)(q0:Int)(T:List az)(g1 q1:Int)(r:LM×SM×CM×List Nat×Int):Prop:=
 mc s0 c0 r.2.1 r.2.2.1∧r.1.name=l.name∧r.1.gen=l.gen∧r.1.aj=g1∧r.1.ad=l.ad∧r.1.T=l.T∧r.1.last<=q1+aM Z T.length∧
 ((r.2.2.2.2=0∧(Jg r.2.1 r.2.2.1 N Z (ad++r.2.2.2.1)∧Live r.2.1 r.2.2.1)∧uA r.2.2.1 N Z l.name g1 T r.2.2.2.1 [] q1 r.1.last g1∧r.2.2.2.1.length=aM Z T.length)∨
  (r.2.2.2.2=7∧(Jg r.2.1 r.2.2.1 N Z ad∧Live r.2.1 r.2.2.1)∧uA r.2.2.1 N Z l.name l.gen es bK nps q0 r.1.last g1)∨
  (r.2.2.2.2=4∧r.2.2.1.on=false∧(∃m∈c0.ms,m.kind=2)∧aV r.2.1 r.2.2.1∧pz r.2.2.1 N Z l.name T (q1+aM Z T.length) g1))
theorem uT{N Z:Nat}{ad:List Nat}{es:List az}{bK:List Nat}{nps:List NP}{q0:Int}{T:List az}{g1 q1:Int}(kg:ad=bK++nps.map (·.p))(hT:aI es (nps.map (·.ns)).flatten=T)(hb:q1+aM Z T.length<=1099511627775)(hq:1<=q1)(hg:g1<=16777215):
  ∀(bs:List (List UInt8)) (l:LM) (s:SM) (c:CM) (put:List Nat),bs=(lV Z l.name T).drop put.length->SO c N Z l.name l.gen es bK nps q0 T g1 q1 put->Jg s c N Z (ad++put)->Live s c->l.last=q1+put.length-1->l.aj=g1->
  ajk l s c N Z ad es bK nps q0 T g1 q1 (jg bs l s c put)
 |[],l,s,c,put,Lj,K,I,hL,hl,ht=>by
  have h1:=congrArg List.length Lj;rw[dA]at h1;unfold lV at h1;rw[bY,fP]at h1;have:=K.lt;simp at h1;omega
 |b::bs,l,s,c,put,Lj,K,I,hL,hl,ht=>by
  have ik:=bO I.cont.pl;have hZ:s.Z=Z:=I.Z;have hlen:(lV Z l.name T).length=aM Z T.length:=by unfold lV;rw[bY,fP]
  have aG:=K.lt;have hd:=List.drop_eq_getElem_cons (l:=lV Z l.name T) (i:=put.length) (by omega);rw[hd]at Lj;injection Lj with jj fZ;have Iq:b=cW Z l.name T put.length:=by rw[jj];simp[lV]
  have C:=K.kX;have jD:=C.g0;have Xp:=K.gg;obtain⟨m1,m2⟩:=mz (q:=l.last+1) (g:=l.aj) (by omega) (by omega) (by omega) (by omega);have Q:=xU (d:=b) I.cont hL m1 m2 (by rw[Iq,hZ];exact lh (by omega) (by omega) C.low T _);obtain⟨q1',q2,q3,q4,q5,q6⟩:=I.put hL (aE rfl) Q;have hh:fh (l.last+1) l.aj=fh (q1+put.length) g1:=by rw[ht,hl];congr 1;omega
  rw[jg];rw[hh]at q1' q2 q3 q4 q5 q6 Q⊢;generalize bn s c (fh (q1+put.length) g1) b=r at*;have p6:∀n∈bK++nps.map (·.p),r.2.1.vN n=c.vN n:=fun n hn=>q2 n (ib _ (by rw[kg];exact hn));have qO:∀n∈put,r.2.1.vN n=c.vN n:=fun n hn=>q2 n (gr _ hn);rcases q6 with⟨w1,n,w2,w3,_,w4,⟨w5,wL⟩,w6,w7⟩|⟨w1,⟨w2,wL⟩,w3⟩|⟨w1,w2,w3,wS,n,w4,w5⟩
  ·rw[if_neg (by omega),w3];rw[Iq]at w6;have On:(put++[n]).length=put.length+1:=by simp
   by_cases ui:put.length+1=aM Z T.length
   ·have SJ:bs=[]:=by rw[fZ];exact BN (by omega)
    rw[SJ,jg];refine⟨q1',rfl,rfl,ht,rfl,rfl,by show l.last+1<=_;omega,aQ ⟨rfl,⟨by show Jg r.1 r.2.1 N Z (ad++(put++[n]));rw[<-cE];exact w5,wL⟩,?_,by show(put++[n]).length=_;omega⟩⟩;have:=K.aas w2 qO w6 w7 ui;rw[show l.last+1=q1+put.length by omega];exact this
   ·have K':=K.more w2 (fun hn=>w4 (ib _ (by rw[kg];exact hn))) p6 qO w6 w7 (by omega);have hih:=uT kg hT hb hq hg bs {l with last:=l.last+1} r.1 r.2.1 (put++[n]) (by rw[fZ,On]) K' (by rw[<-cE];exact w5) wL (by rw[On];show l.last+1=_;omega) ht;obtain⟨e0,e1,e2,e3,e4,e5,e6,e7⟩:=hih;refine⟨q1'.trans e0,e1,e2,e3,e4,e5,e6,?_⟩;rcases e7 with e7|e7|⟨e7,e8,e9,e10⟩
    ·exact aQ e7
    ·exact aE (aQ e7)
    ·exact aE (aE ⟨e7,e8,by rw[<-Q.ms];exact e9,e10⟩)
  ·rw[if_pos (by omega)];obtain⟨D1,D3,D2⟩:=w2.UX;refine⟨q1'.trans D2,rfl,rfl,ht,rfl,rfl,by show l.last+1<=_;omega,aE (aQ ⟨w1,⟨D1,D3 wL⟩,?_⟩)⟩;exact C.shrink p6 w3 (by show _<=l.last+1;omega) (bG _)
  ·rw[if_pos (by omega)];obtain⟨D1,_,D2⟩:=wS.UX;refine⟨q1'.trans D2,rfl,rfl,ht,rfl,rfl,by show l.last+1<=_;omega,aE (aE ⟨w1,w2,w3,D1.cont,K.lA,K.len,?_⟩)⟩;rw[Iq]at w5;have hold:¬(n<N∧r.2.1.vN n=some (cW Z l.name T put.length,fh (q1+put.length) g1))->∃g es bK nps q0 last aj,uA r.2.1 N Z l.name g es bK nps q0 last aj∧aI es (nps.map NP.ns).flatten=T∧last<=q1+aM Z T.length∧aj<=g1:=fun hv=>
    ⟨_,_,_,_,_,_,_,C.shrink p6 (fun m v hm hx=>by
     rcases w5 m v hm hx with e|⟨e1,e2⟩
     ·exact e
     ·exact absurd ⟨by rw[<-e1];exact hm,by rw[<-e1,<-e2];exact hx⟩ hv) (bG _) (bG _),hT,by omega,bG _⟩
   by_cases hv:n<N∧r.2.1.vN n=some (cW Z l.name T put.length,fh (q1+put.length) g1)
   ·have ho:∀(m:Nat) v,m<N->r.2.1.vN m=some v->m=n∨c.vN m=some v:=fun m v hm hx=>(w5 m v hm hx).symm.imp (fun e=>e.1) id;by_cases ui:put.length+1=aM Z T.length
    ·exact⟨_,_,_,_,_,_,_,K.aas hv.1 qO hv.2 ho ui,rfl,by omega,bG _⟩
    ·exact⟨_,_,_,_,_,_,_,(K.more hv.1 (fun hn=>w4 (ib _ (by rw[kg];exact hn))) p6 qO hv.2 ho (by omega)).kX,hT,by rw[aY,mT];omega,bG _⟩
   ·exact hold hv
theorem zB{l:LM}{es:List az}{bK:List Nat}{nps:List NP}{q0:Int}(I:z7 l s c es bK nps q0)(hb:l.last+1+aM s.Z l.T.length<=1099511627775)(hg:l.aj+1<=16777215):
  mc s c (aH l s c).2.1 (aH l s c).2.2.1∧(aH l s c).1.name=l.name∧(aH l s c).1.aj=l.aj+1∧(aH l s c).1.T=l.T∧(aH l s c).1.last<=l.last+1+aM s.Z l.T.length∧
  (((aH l s c).2.2.2=0∧(aH l s c).1.gen=l.aj+1∧(aH l s c).1.ad.length=aM s.Z l.T.length∧∃acv,z7 (aH l s c).1 (aH l s c).2.1 (aH l s c).2.2.1 l.T acv [] (l.last+1))∨
   ((aH l s c).2.2.2=7∧(aH l s c).1.gen=l.gen∧z7 (aH l s c).1 (aH l s c).2.1 (aH l s c).2.2.1 es bK nps q0)∨
   ((aH l s c).2.2.2=4∧(aH l s c).2.2.1.on=false∧(∃m∈c.ms,m.kind=2)∧aV (aH l s c).2.1 (aH l s c).2.2.1∧pz (aH l s c).2.2.1 (s.B*s.P) s.Z l.name l.T (l.last+1+aM s.Z l.T.length) (l.aj+1))):=by
 have C:=I.kX;have hR:=uT (l:={l with aj:=l.aj+1}) (s:=s) (c:=c) (put:=[]) (bs:=lV s.Z l.name l.T) (T:=l.T) (g1:=l.aj+1) (q1:=l.last+1) I.pg I.Iz.symm hb (by have:=C.l0;omega) hg rfl
  (SO.start C I.lA I.len) (by rw[kZ];exact I.sin) I.live (by simp) rfl
 unfold aH;generalize jg (lV s.Z l.name l.T) {l with aj:=l.aj+1} s c []=r at hR;obtain⟨e0,e1,e2,e3,e4,e5,e6,e7⟩:=hR;dsimp only at e1 e2 e4 e5 e7;unfold uh;have hB:r.2.1.B*r.2.1.P=s.B*s.P:=by rw[e0.B,e0.P]
 rcases e7 with⟨f1,⟨f2,fL⟩,f3,f4⟩|⟨f1,⟨f2,fL⟩,f3⟩|⟨f1,f2,f3,f4,f5⟩
 ·rw[if_neg (by omega)];have f2':Jg r.2.1 r.2.2.1 (s.B*s.P) s.Z (r.2.2.2.1++l.ad):=⟨f2.cont,f2.N,f2.Z,fun n hn=>f2.has n (List.mem_append.2 (List.mem_append.1 hn).symm),fun n h a b=>by
   obtain⟨m,hm,e⟩:=f2.Av n h a b;exact⟨m,List.mem_append.2 (List.mem_append.1 hm).symm,e⟩,(List.perm_append_comm.nodup_iff).1 f2.nd⟩
  obtain⟨D1,D3,D2⟩:=f2'.UX;refine⟨e0.trans D2,e1,e3,e5,e6,aQ ⟨rfl,e3,f4,r.2.2.2.1,D3 fL,?_,?_,?_,?_,?_,?_⟩⟩
  ·rw[D2.B,D2.P,D2.Z,hB,e0.Z];exact D1
  ·rw[D2.B,D2.P,D2.Z,hB,e0.Z];show uA r.2.2.1 (s.B*s.P) s.Z r.1.name r.1.aj l.T r.2.2.2.1 [] (l.last+1) r.1.last r.1.aj;rw[e1,e3];exact f3
  ·show r.2.2.2.1=r.2.2.2.1++[];rw[kZ]
  ·show r.1.T=_;rw[e5];rfl
  ·show dd r.1.T;rw[e5];exact I.lA
  ·show r.1.T.length<=64;rw[e5];exact I.len
 ·rw[if_pos (by omega)];refine⟨e0,e1,e3,e5,e6,aE (aQ ⟨f1,e2,fL,?_,?_,?_,?_,?_,?_⟩)⟩
  ·show Jg r.2.1 r.2.2.1 (r.2.1.B*r.2.1.P) r.2.1.Z r.1.ad;rw[hB,e0.Z,e4];exact f2
  ·show uA r.2.2.1 (r.2.1.B*r.2.1.P) r.2.1.Z r.1.name r.1.gen es bK nps q0 r.1.last r.1.aj;rw[hB,e0.Z,e1,e2,e3];exact f3
  ·show r.1.ad=_;rw[e4];exact I.pg
  ·show r.1.T=_;rw[e5];exact I.Iz
  ·show dd r.1.T;rw[e5];exact I.lA
  ·show r.1.T.length<=64;rw[e5];exact I.len
 ·rw[if_pos (by omega)];exact⟨e0,e1,e3,e5,e6,aE (aE ⟨f1,f2,f3,f4,f5⟩)⟩
end
section
def Bg(tv:Value)(sb:Nat)(l:LM)(pv:Value):Array Value:=#[tv,.pointer (some ⟨sb,0,none⟩),.string (cq l.name),.int .i64 l.gen,.int .i64 l.aj,.int .i64 l.last,pv]
def nu(l:List Nat):List Int:=l.map fun n:Nat=>(n:Int)
def aT(b sb:Nat)(l:LM)(H:HL):Prop:=∃tv pv Ht Hp,H=(b,.cells (Bg tv sb l pv) 113)::(Ht++Hp)∧IsTable tv l.T Ht∧aZ pv (nu l.ad) Hp
def ajl(b sb:Nat)(l:LM)(v:Value)(w:World)(Fr:HL)(e:Ending)(w':World):Prop:=e=.returned v∧∃H',aT b sb l H'∧Holds w' (H'++Fr)∧af w w'
variable{b sb:Nat}{l:LM}{H Fr:HL}{w:World}
theorem aT.cells(h:aT b sb l H):∃tv pv,∀(w:World) (F:HL),Holds w (H++F)->w.cell? ⟨b,0,none⟩=some tv∧w.cell? ⟨b,1,none⟩=some (.pointer (some ⟨sb,0,none⟩))∧
  w.cell? ⟨b,2,none⟩=some (.string (cq l.name))∧w.cell? ⟨b,3,none⟩=some (.int .i64 l.gen)∧w.cell? ⟨b,4,none⟩=some (.int .i64 l.aj)∧w.cell? ⟨b,5,none⟩=some (.int .i64 l.last)∧w.cell? ⟨b,6,none⟩=some pv:=by
 obtain⟨tv,pv,Ht,Hp,rfl,_,_⟩:=h;exact⟨tv,pv,fun w F hX=>⟨hX.ae 0,hX.ae 1,hX.ae 2,hX.ae 3,hX.ae 4,hX.ae 5,hX.ae 6⟩⟩
theorem aT.Pn(h:aT b sb l H)(x:Int):∃H',aT b sb {l with last:=x} H'∧∀(w:World) (F:HL),Holds w (H++F)->Holds (w.setCell ⟨b,5,none⟩ (.int .i64 x)) (H'++F)∧w.frozen? ⟨b,5,none⟩=false∧b<w.heap.size:=by
 obtain⟨tv,pv,Ht,Hp,rfl,h1,h2⟩:=h;refine⟨_,⟨tv,pv,Ht,Hp,rfl,h1,h2⟩,fun w F hX=>⟨?_,hX.ah 5,hX.aG⟩⟩;exact Holds.set hX 5 (.int .i64 x)
theorem aT.Ke(h:aT b sb l H)(x:Int):∃H',aT b sb {l with aj:=x} H'∧∀(w:World) (F:HL),Holds w (H++F)->Holds (w.setCell ⟨b,4,none⟩ (.int .i64 x)) (H'++F)∧w.frozen? ⟨b,4,none⟩=false∧b<w.heap.size:=by
 obtain⟨tv,pv,Ht,Hp,rfl,h1,h2⟩:=h;refine⟨_,⟨tv,pv,Ht,Hp,rfl,h1,h2⟩,fun w F hX=>⟨?_,hX.ah 4,hX.aG⟩⟩;exact Holds.set hX 4 (.int .i64 x)
theorem dg(h:aT b sb l H)(hH:Holds w (H++Fr))(h0:0<=l.last)(h1:l.last<=1000000000000000):Calls Tryz.prog 21 #[.pointer (some ⟨b,0,none⟩)] w (ajl b sb {l with last:=l.last+1} (.int .i64 (l.last+1)) w Fr):=by
 obtain⟨tv,pv,hc⟩:=h.cells;obtain⟨_,_,_,_,_,c5,_⟩:=hc w Fr hH;obtain⟨H',vh,hs⟩:=h.Pn (l.last+1);obtain⟨gK,f5,hb⟩:=hs w Fr hH;have hw:IntKind.i64.wrap (l.last+1)=l.last+1:=by rw[IntKind.wrap_i64];omega
 have HL:=aa vh;generalize l.last=q at*;clear h hc hs vh;go_enter func21,ntmps21;go_wp2_with fail
 go_ret;exact⟨rfl,H',HL.o,gK,(af.refl w).setCell _ _⟩
theorem Hf(w:World):Calls Tryz.prog 21 #[.pointer none] w (fun e w'=>e=.returned (.int .i64 0)∧w=w'):=by
 go_enter func21,ntmps21;go_wp2_with fail
 go_ret;exact⟨rfl,rfl⟩
theorem lj(h:aT b sb l H)(hH:Holds w (H++Fr)):Calls Tryz.prog 33 #[.pointer (some ⟨b,0,none⟩)] w (fun e w'=>e=.returned (.int .i64 l.gen)∧w=w'):=by
 obtain⟨tv,pv,hc⟩:=h.cells;obtain⟨_,_,_,c3,_,_,_⟩:=hc w Fr hH;clear h hc;go_enter func33,ntmps33;go_wp2_with fail
 go_ret;exact⟨rfl,rfl⟩
theorem zC(h:aT b sb l H)(hH:Holds w (H++Fr)):Calls Tryz.prog 22 #[.pointer (some ⟨b,0,none⟩)] w (fun e w'=>e=.returned (.string (cq l.name))∧w=w'):=by
 obtain⟨tv,pv,hc⟩:=h.cells;obtain⟨_,_,c2,_,_,_,_⟩:=hc w Fr hH;clear h hc;go_enter func22,ntmps22;go_wp2_with fail
 go_ret;exact⟨rfl,rfl⟩
theorem KY(w:World):Calls Tryz.prog 22 #[.pointer none] w (fun e w'=>e=.returned (.string ⟨#[]⟩)∧w=w'):=by
 go_enter func22,ntmps22;go_wp2_with fail
 go_ret;exact⟨rfl,rfl⟩
theorem zD(h:aT b sb l H)(hH:Holds w (H++Fr)):Calls Tryz.prog 23 #[.pointer (some ⟨b,0,none⟩)] w (fun e w'=>e=.returned (.pointer (some ⟨sb,0,none⟩))∧w=w'):=by
 obtain⟨tv,pv,hc⟩:=h.cells;obtain⟨_,c1,_,_,_,_,_⟩:=hc w Fr hH;clear h hc;go_enter func23,ntmps23;go_wp2_with fail
 go_ret;exact⟨rfl,rfl⟩
theorem K0(w:World):Calls Tryz.prog 23 #[.pointer none] w (fun e w'=>e=.returned (.pointer none)∧w=w'):=by
 go_enter func23,ntmps23;go_wp2_with fail
 go_ret;exact⟨rfl,rfl⟩
theorem aT.ad(h:aT b sb l H):∃tv A c,∀(w:World) (F:HL),Holds w (H++F)->w.cell? ⟨b,0,none⟩=some tv∧w.cell? ⟨b,6,none⟩=some (.slice A l.ad.length c)∧sF w (.slice A l.ad.length c) (nu l.ad):=by
 obtain⟨tv,pv,Ht,Hp,rfl,h1,h2⟩:=h;obtain⟨A,c,rfl⟩:=h2.val;rw[show(nu l.ad).length=l.ad.length by simp[nu]]at*;exact⟨tv,A,c,fun w F hX=>⟨hX.ae 0,hX.ae 6,h2.at_ (Fr:=((b,.cells (Bg tv sb l (.slice A l.ad.length c)) 113)::(Ht++F))) hX.p⟩⟩
theorem lp(h:aT b sb l H)(hH:Holds w (H++Fr)):Calls Tryz.prog 34 #[.pointer (some ⟨b,0,none⟩)] w (fun e w'=>e=.returned (.int .i64 (l.ad.length:Int))∧w=w'):=by
 obtain⟨tv,A,c,hc⟩:=h.ad;obtain⟨_,c6,_⟩:=hc w Fr hH;clear h hc;go_enter func34,ntmps34;go_wp2_with fail
 go_ret;exact⟨rfl,rfl⟩
end
section
variable{b sb cb g cap:Nat}{mv:Value}{s:SM}{c:CM}{l:LM}{H Hs Hc Fr:HL}{w:World}
theorem aT.table(h:aT b sb l H):∃tb Ht Ho,(∀(w:World) (F:HL),Holds w (H++F)->w.cell? ⟨b,0,none⟩=some (.pointer (some ⟨tb,0,none⟩)))∧IsTable (.pointer (some ⟨tb,0,none⟩)) l.T Ht∧
  (∀(w:World) (F:HL),Holds w (H++F)↔Holds w (Ht++(Ho++F)))∧∀(T':List az) (IA:HL),IsTable (.pointer (some ⟨tb,0,none⟩)) T' IA->∃H',aT b sb {l with T:=T'} H'∧∀(w:World) (F:HL),Holds w (IA++(Ho++F))->Holds w (H'++F):=by
 obtain⟨tv,pv,Ht,Hp,rfl,h1,h2⟩:=h;obtain⟨tb,rfl⟩:=h1.ptr;refine⟨tb,Ht,(b,.cells (Bg (.pointer (some ⟨tb,0,none⟩)) sb l pv) 113)::Hp,fun w F hX=>hX.ae 0,h1,fun w F=>⟨fun hX=>hX.p,fun hX=>hX.p⟩,fun T' IA ht=>?_⟩;exact⟨_,⟨_,pv,IA,Hp,rfl,ht,h2⟩,fun w F hX=>show Holds w (((b,.cells (Bg (.pointer (some ⟨tb,0,none⟩)) sb l pv) 113)::(IA++Hp))++F)from hX.p⟩
theorem Eh(w:World):Calls Tryz.prog 15 #[.pointer none] w (fun e w'=>e=.returned (.slice none 0 0)∧w=w'):=by
 go_enter func15,ntmps15;go_wp2_with fail
 go_ret;exact⟨rfl,rfl⟩
theorem cD(h:aT b sb l H)(hH:Holds w (H++Fr)):Calls Tryz.prog 15 #[.pointer (some ⟨b,0,none⟩)] w (cB (fun v' H'=>aP v' l.T H') w (H++Fr)):=by
 obtain⟨tb,Ht,Ho,hc,ht,rU,_⟩:=h.table;have c0:=hc w Fr hH;have HA:=aa (ru _ _ Ht (Ho++Fr) w ht ((rU w Fr).1 hH));have dj:=aa fun wx F=>(rU wx F).2;clear h hc rU hH;go_enter func15,ntmps15;go_wp2_with fail
 refine HA.o.mono ?_;rintro e w1⟨v,Hv,rfl,he,ax,hg⟩;go_wp2_with fail
 go_ret;exact⟨v,Hv,rfl,he,(dj.o w1 (Fr++Hv) (show Holds w1 (Ht++(Ho++(Fr++Hv)))from ax.p)).p,hg⟩
def Tz:Obj:=.cells #[.int .u64 0,.int .i64 0,.bool false,.int .i64 0] 24
theorem NA(a:Int)(w:World)(Fr:HL)(hH:Holds w Fr):Calls Tryz.prog 19 #[.pointer none,.int .u64 a] w (cM (mo none) w Fr):=by
 have ax:=hH.alloc Tz;have gY:=(af.refl w).alloc Tz;show Calls _ _ _ _ (cM (.tuple #[.agg #[.int .u64 0,.int .i64 0,.bool false,.int .i64 0],.bool false]) w Fr);go_enter func19,ntmps19;go_upto_region 2 with fail
 rw[show w.alloc (Obj.cells #[.int .u64 0,.int .i64 0,.bool false,.int .i64 0] 24)=w.alloc Tz from rfl];generalize w.alloc Tz=w1 at*;generalize w.heap.size=rb at*;obtain⟨r0,r1,r2,r3,f0,f1,f2,f3⟩:=ax.hJ;have rl:=ax.aG;have XB:=Holds.nz ax (.int .u64 0) (.int .i64 0) (.bool false) (.int .i64 0);have Ah:=gY.nz rb (.int .u64 0) (.int .i64 0) (.bool false) (.int .i64 0);have HH:=aa ax;clear ax;go_wp2_with fail
 obtain⟨t0,t1,t2,t3,_⟩:=XB.hJ;refine bodyPost_ret (v:=.tuple #[.agg #[.int .u64 0,.int .i64 0,.bool false,.int .i64 0],.bool false]) (by rw[results_cell_tmp rfl];go_simp) rfl ?_;exact⟨rfl,XB.tail,Ah⟩
theorem NC(a:Int)(h:aT b sb l H)(hH:Holds w (H++Fr)):Calls Tryz.prog 19 #[.pointer (some ⟨b,0,none⟩),.int .u64 a] w (cM (mo (eL a l.T)) w (H++Fr)):=by
 obtain⟨tb,Ht,Ho,hc,ht,rU,_⟩:=h.table;have ax:=hH.alloc Tz;have gY:=(af.refl w).alloc Tz;have aB:Holds (w.alloc Tz) (H++((w.heap.size,Tz)::Fr)):=ax.p;have c0:=hc _ _ aB;have HA:=aa (CS _ _ a Ht _ _ ht ((rU _ _).1 aB));have dj:=aa fun wx F=>(rU wx F).2;generalize eL a l.T=fo at*;unfold mo at*;generalize hx:fo.getD az.zero=x at*;obtain⟨x0,x1,x2,x3⟩:=x;generalize fo.isSome=z at*;clear h hc rU hH hx ax aB;show Calls _ _ _ _ (cM (.tuple #[.agg #[.int .u64 x0,.int .i64 x1,.bool x2,.int .i64 x3],.bool z]) w (H++Fr));go_enter func19,ntmps19;go_upto_region 3 with fail
 rw[show w.alloc (Obj.cells #[.int .u64 0,.int .i64 0,.bool false,.int .i64 0] 24)=w.alloc Tz from rfl];generalize w.alloc Tz=w1 at*;generalize w.heap.size=rb at*;go_wp2_with fail
 refine HA.o.mono ?_;rintro e w2⟨rfl,aD,bj⟩;have aU:Holds w2 ((rb,Tz)::(H++Fr)):=(dj.o _ _ aD).p;obtain⟨r0,r1,r2,r3,f0,f1,f2,f3⟩:=aU.hJ;have rl:=aU.aG;have XB:=Holds.nz aU (.int .u64 x0) (.int .i64 x1) (.bool x2) (.int .i64 x3);have Ah:=(gY.trans bj).nz rb (.int .u64 x0) (.int .i64 x1) (.bool x2) (.int .i64 x3);clear aD aU bj gY HA c0;simp only[az.agg];go_wp2_with fail
 obtain⟨t0,t1,t2,t3,_⟩:=XB.hJ;refine bodyPost_ret (v:=.tuple #[.agg #[.int .u64 x0,.int .i64 x1,.bool x2,.int .i64 x3],.bool z]) (by rw[results_cell_tmp rfl];go_simp) rfl ?_;exact⟨rfl,XB.tail,Ah⟩
theorem V5(a0 a1 a2:Int)(w:World):(Instr.field 31 (.agg #[.int .i64 a0,.int .i64 a1,.int .i64 a2]) 2).run Tryz.prog w=.ok (.int .i64 a2) w:=by kernel_rfl
theorem C1(h:aT b sb l H)(hs:cr sb cb s Hs)(cz:ai cb g cap mv c Hc)(hH:Holds w (H++(Hs++(Hc++Fr)))):Calls Tryz.prog 53 #[.pointer (some ⟨b,0,none⟩)] w (cM (.int .i64 (c.Z:Int)) w (H++(Hs++(Hc++Fr)))):=by
 obtain⟨tv,pv,hc⟩:=h.cells;obtain⟨_,c1,_⟩:=hc w _ hH;have HC:=aa (M3 hs (w:=w) (Fr:=H++(Hc++Fr)) hH.p);have HG:=aa (J0 cz (w:=w) (Fr:=H++(Hs++Fr)) hH.p);have hZ:=fun wx=>V5 (c.blocks.length:Int) (c.P:Int) (c.Z:Int) wx;clear h hs cz hc hH;go_enter func53,ntmps53;go_wp2_with fail
 refine HC.o.mono ?_;rintro e w1⟨rfl,rfl⟩;go_wp2_with fail
 refine HG.o.mono ?_;rintro e w1⟨rfl,ax,aK⟩;go_wp2_with fail
 go_ret;exact⟨rfl,ax.p,aK⟩
def ahr(sb cb:Nat)(ns:List Nat)(s0:SM)(w:World)(F:HL)(i:Value)(wr:World):Prop:=
 ∃(k:Nat) (H':HL),k<=ns.length∧i=.int .i64 k∧cr sb cb (dI s0 (ns.take k)) H'∧Holds wr (H'++F)∧af w wr
theorem C2(pv:Value)(ns:List Nat)(h:aT b sb l H)(hs:cr sb cb s Hs)(hH:Holds w (Hs++(H++Fr)))(hp:∀wx,Holds wx (H++Fr)->sF wx pv (nu ns))(Xz:ns.length<=1000):
  Calls Tryz.prog 64 #[.pointer (some ⟨b,0,none⟩),pv] w (fun e w'=>e=.returned (.tuple #[])∧∃H',cr sb cb (dI s ns) H'∧Holds w' (H'++(H++Fr))∧af w w'):=by
 have HP:=aa hp;have ik:(nu ns).length=ns.length:=by simp[nu]
 obtain⟨_,A,c',rfl,_,_,_⟩:=hp w hH.right;rw[ik]at HP⊢;obtain⟨tv,pv,hc⟩:=h.cells;have HC:=aa fun wx F (hx:Holds wx (H++F))=>(hc wx F hx).2.1;have bD:ahr sb cb ns s w (H++Fr) (.int .i64 0) w:=⟨0,Hs,by omega,rfl,hs,hH,af.refl w⟩;clear hp hc hs hH h ik;go_enter func64,ntmps64;go_wp2_with fail
 go_loopw [8] (fun iv wr=>ahr sb cb ns s w (H++Fr) iv wr) (fun iv _=>ns.length-(intOf iv).toNat)
 case atStart=>exact bD
 case round=>
  clear bD;obtain⟨k,H',hk,rfl,hs,eh,hg⟩:=hrel;by_cases aG:k<ns.length
  ·have dQ:(k:Int)<ns.length:=by omega
   obtain⟨_,A',c2,hv,_,_,cm⟩:=HP.o wr eh.right;injection hv with e1 e2 e3;subst e1 e3;clear e2;obtain⟨pb,o,rfl,bm⟩:=cm (by simp[nu];omega);have ae:=bm k (.int .i64 (ns[k]:Nat)) (by simp[nu,aG]);have c1:=HC.o wr (H'++Fr) eh.p;have HD:=aa (Cd ((ns[k]:Nat):Int) hs eh);have HT:=aa (show dI s (ns.take (k+1))=(fF (dI s (ns.take k)) (ns[k]:Nat)).1 by rw[gB aG,sQ]);generalize((ns[k]:Nat):Int)=n at*;have zP:=kH (k:=k) (by omega);clear cm bm hs eh;go_wp2_with fail
   refine HD.o.mono ?_;rintro e w1⟨ve,He,H1,rfl,_,kU,ax,aK⟩;go_wp2_with fail
   go_roundw
   case rel=>exact⟨k+1,H1,by omega,by simp,by rw[HT.o];exact kU,ax.p,hg.trans aK⟩
   case measure=>simp[intOf];omega
  ·have dQ:¬(k:Int)<ns.length:=by omega
   obtain rfl:k=ns.length:=by omega
   rw[fB]at hs;go_wp2_with fail
   exact bodyPost_end (v:=.tuple #[]) (results_none rfl _ _ _) rfl ⟨rfl,H',hs,eh,hg⟩
theorem Nt.MI(n:Nt):n.agg=.agg #[.bool n.gone,.int .u64 n.e.addr,.int .i64 n.e.aW,.bool n.e.bR,.int .i64 n.e.seq]:=rfl
theorem sR(tv:Value)(T:List az)(n:Nt)(hv:IsTable tv T H)(hH:Holds w (H++Fr))(h0:0<=n.e.addr)(hl:T.length<200000):
  Calls Tryz.prog 55 #[tv,n.agg] w (fun e w'=>e=.returned (.tuple #[])∧∃H',IsTable tv (su T n) H'∧Holds w' (H'++Fr)∧af w w'):=by
 obtain⟨gn,e⟩:=n;dsimp only at h0;obtain⟨bx,ob,PH,IB⟩:∃bx ob,bx=w.heap.size∧ob=Obj.cells #[.bool gn,.int .u64 e.addr,.int .i64 e.aW,.bool e.bR,.int .i64 e.seq] 26:=⟨_,_,rfl,rfl⟩;have ax:=(hH.alloc ob);have aK:=(af.refl w).alloc ob;rw[<-PH]at ax;have aB:Holds (w.alloc ob) (H++((bx,ob)::Fr)):=ax.p;have HD:=aa (Nq tv T e.addr H _ (w.alloc ob) hv aB);have HP:=aa (Fl tv T e H _ (w.alloc ob) hv aB h0 hl);rw[IB]at ax;have hn:=ax.note;obtain⟨d0,d1,d2,d3,d4⟩:=hn;rw[<-IB]at d0 d1 d2 d3 d4;clear hv hH ax aB;rw[Nt.MI];dsimp only;unfold az.agg at HP;subst IB;cases gn with
 |true=>
  go_enter func55,ntmps55;go_upto_region 1 with fail
  rw[<-PH]at*;generalize w.alloc (.cells #[.bool true,.int .u64 e.addr,.int .i64 e.aW,.bool e.bR,.int .i64 e.seq] 26)=w1 at*;go_wp2_with fail
  refine HD.o.mono ?_;rintro e2 w2⟨rfl,H2,ht,aB,aX⟩;go_wp2_with fail
  exact bodyPost_ret (v:=.tuple #[]) (results_none rfl _ _ _) rfl ⟨rfl,H2,ht,aB.p,aK.trans aX⟩
 |false=>
  go_enter func55,ntmps55;go_upto_region 1 with fail
  rw[<-PH]at*;generalize w.alloc (.cells #[.bool false,.int .u64 e.addr,.int .i64 e.aW,.bool e.bR,.int .i64 e.seq] 26)=w1 at*;go_wp2_with fail
  refine HP.o.mono ?_;rintro e2 w2⟨rfl,H2,ht,aB,aX⟩;go_wp2_with fail
  exact bodyPost_end (v:=.tuple #[]) (results_none rfl _ _ _) rfl ⟨rfl,H2,ht,aB.p,aK.trans aX⟩
end
section
variable{s s':SM}{c c':CM}
structure SS where
 n:Nat
 h:Hd
 d:List UInt8
structure B5(s:SM)(c:CM)(kind gen:Int)(ps:List SS):Prop where
 iff:∀x,x∈ps↔aq s.hs (x.n:Int)=some x.h∧c.vN x.n=some (x.d,x.h)∧x.h.k=kind∧x.h.g=gen
 asc:ps.Pairwise fun a b=>a.h.s<=b.h.s
 nd:(ps.map (·.n)).Nodup
theorem UZ:∀{a b:List SS},a.Pairwise (fun x y=>x.h.s<=y.h.s)->b.Pairwise (fun x y=>x.h.s<y.h.s)->(a.map (·.n)).Nodup->(∀x,x∈a↔x∈b)->a=b
 |[],b,_,_,_,hm=>by
  cases b with
  |nil=>rfl
  |cons y b=>exact absurd ((hm y).2 dC) (by simp)
 |x::a,[],_,_,_,hm=>absurd ((hm x).1 dC) (by simp)
 |x::a,y::b,ha,hb,hn,hm=>by
  rw[List.pairwise_cons]at ha hb;rw[ku,List.nodup_cons]at hn;have hxy:x=y:=by
   rcases List.mem_cons.1 ((hm y).2 dC)with e|e
   ·exact e.symm
   ·rcases List.mem_cons.1 ((hm x).1 dC)with e2|e2
    ·exact e2
    ·have h1:=ha.1 y e;have h2:=hb.1 x e2;omega
  subst hxy;congr 1;refine UZ ha.2 hb.2 hn.2 fun z=>⟨fun hz=>?_,fun hz=>?_⟩
  ·rcases List.mem_cons.1 ((hm z).1 (fA _ hz))with e|e
   ·exact absurd (List.mem_map.2 ⟨z,hz,by rw[e]⟩) hn.1
   ·exact e
  ·rcases List.mem_cons.1 ((hm z).2 (fA _ hz))with e|e
   ·have:=hb.1 z hz;rw[e]at this;omega
   ·exact e
structure iy(s:SM)(c:CM)(nm:List UInt8)(g:Int)(es:List az)(bK:List Nat)(nps:List NP)(q0 last aj:Int):Prop where
 cont:aV s c
 kX:uA c (s.B*s.P) s.Z nm g es bK nps q0 last aj
 all:∀n:Nat,n<s.B*s.P->aq s.hs (n:Int)=(c.vN n).map (·.2)
section
variable{nm:List UInt8}{g q0 last aj:Int}{es:List az}{bK:List Nat}{nps:List NP}
def EB(Z:Nat)(nm:List UInt8)(g:Int)(es:List az)(bK:List Nat)(q0:Int):List SS:=(List.range bK.length).map fun i=>⟨bK.getD i 0,fh (q0+i) g,cW Z nm es i⟩
def yj(Z:Nat)(g:Int)(nps:List NP):List SS:=nps.map fun x=>⟨x.p,gA x.q g,eX x.ns Z⟩
theorem iy.look(I:iy s c nm g es bK nps q0 last aj){n:Nat}{d:List UInt8}{h:Hd}(hn:n<s.B*s.P)(hv:c.vN n=some (d,h)):aq s.hs (n:Int)=some h:=by rw[I.all n hn,hv];rfl
theorem iy.lt(I:iy s c nm g es bK nps q0 last aj){n:Nat}{h:Hd}(hl:aq s.hs (n:Int)=some h):n<s.B*s.P:=by
 obtain⟨m,e,hm,_⟩:=I.cont.has hl;obtain rfl:n=m:=by omega
 exact hm
theorem iy.D0(I:iy s c nm g es bK nps q0 last aj){ps:List SS}(K:B5 s c 4 g ps):ps=EB s.Z nm g es bK q0:=by
 have C:=I.kX;refine UZ K.asc ?_ K.nd fun x=>?_
 ·unfold EB;rw[rK];refine List.Pairwise.imp ?_ List.pairwise_lt_range;intro a b h;show q0+(a:Int)<q0+b;omega
 ·rw[K.iff];unfold EB;rw[List.mem_map];constructor
  ·rintro⟨h1,h2,h3,h4⟩;have hm:=C.D0 x.n x.d x.h (I.lt h1) h2 h3 h4;obtain⟨i,hi,e⟩:=List.getElem_of_mem hm;refine⟨i,List.mem_range.2 hi,?_⟩;have:=(C.cv i hi).2;rw[e,h2]at this;injection this with this;injection this with e1 e2;obtain⟨n,h,d⟩:=x;dsimp only at e e1 e2;rw[<-e1,<-e2,jR,bF hi,e];rfl
  ·rintro⟨i,hi,rfl⟩;have hi:=List.mem_range.1 hi;obtain⟨h1,h2⟩:=C.cv i hi;have e:bK.getD i 0=bK[i]:=by rw[jR,bF hi];rfl
   dsimp only;rw[e];exact⟨I.look h1 h2,h2,rfl,rfl⟩
theorem iy.notes(I:iy s c nm g es bK nps q0 last aj){ps:List SS}(K:B5 s c 3 g ps):ps=yj s.Z g nps:=by
 have C:=I.kX;refine UZ K.asc ?_ K.nd fun x=>?_
 ·unfold yj;rw[rK];exact C.nr
 ·rw[K.iff];unfold yj;rw[List.mem_map];constructor
  ·rintro⟨h1,h2,h3,h4⟩;have hm:=C.ZL x.n x.d x.h (I.lt h1) h2 h3 h4;obtain⟨y,hy,e⟩:=List.mem_map.1 hm;refine⟨y,hy,?_⟩;have:=(C.nv y hy).2.1;rw[e,h2]at this;injection this with this;injection this with e1 e2;obtain⟨n,h,d⟩:=x;dsimp only at e e1 e2;rw[<-e1,<-e2,e]
  ·rintro⟨y,hy,rfl⟩;obtain⟨h1,h2,_⟩:=C.nv y hy;exact⟨I.look h1 h2,h2,rfl,rfl⟩
structure Vm(Z:Nat)(ps:List SS)(nm:List UInt8)(es:List az)(is:List Nat):Prop where
 low:yZ nm
 lA:dd es
 len:es.length<=64
 il:is.length=ps.length
 d:∀j (h:j<ps.length) (h':j<is.length),ps[j].d=cW Z nm es is[j]∧is[j]<aM Z es.length
 asc:is.Pairwise (·<·)
 few:ps.length<aM Z es.length
theorem kD{α:Type}[DecidableEq α]:∀(l m:List α),l.Nodup->(∀x∈l,x∈m)->l.length<=m.length
 |[],m,_,_=>Nat.zero_le _
 |a::l,m,hn,hs=>by
  rw[List.nodup_cons]at hn;have ha:=hs a dC;have:=kD l (m.erase a) hn.2 fun x hx=>(List.mem_erase_of_ne (by rintro rfl;exact hn.1 hx)).2 (hs x (fA _ hx));rw[List.length_erase_of_mem ha]at this;have:=List.length_pos_of_mem ha;rw[fC];omega
theorem ad2{l:List Nat}{P i0:Nat}(ha:l.Pairwise (·<·))(h:∀i∈l,i<P∧i≠i0)(h0:i0<P):l.length<P:=by
 have hn:(i0::l).Nodup:=List.nodup_cons.2 ⟨fun hm=>(h i0 hm).2 rfl,ha.imp fun h=>Nat.ne_of_lt h⟩;have:=kD (i0::l) (List.range P) hn fun x hx=>by
  rcases List.mem_cons.1 hx with rfl|e
  ·exact List.mem_range.2 h0
  ·exact List.mem_range.2 (h x e).1
 rw[fC,fP]at this;omega
theorem iy.half(I:iy s c nm g es bK nps q0 last aj){g':Int}(hg:g<g'){ps:List SS}(K:B5 s c 4 g' ps):∃WR nk is,Vm s.Z ps WR nk is:=by
 obtain⟨WR,nk,q,i0,h1,h2,h3,h4,h5,h6⟩:=I.kX.part g' hg;have hx:∀x∈ps,∃i:Nat,i<aM s.Z nk.length∧i≠i0∧x.h.s=q+i∧x.d=cW s.Z WR nk i:=by
  intro x hx;obtain⟨a1,a2,a3,a4⟩:=(K.iff x).1 hx;exact h5 x.n x.d x.h (I.lt a1) a2 a3 a4
 have hu:∀x∈ps,∀y∈ps,x.h.s=y.h.s->x.n=y.n:=by
  intro x hx y hy e;obtain⟨a1,a2,a3,a4⟩:=(K.iff x).1 hx;obtain⟨b1,b2,b3,b4⟩:=(K.iff y).1 hy;exact h6 x.n y.n x.d x.h y.d y.h (I.lt a1) (I.lt b1) a2 b2 a3 a4 b3 b4 e
 let f:SS->Nat:=fun x=>(x.h.s-q).toNat
 have hf:∀x∈ps,f x<aM s.Z nk.length∧f x≠i0∧x.d=cW s.Z WR nk (f x):=by
  intro x Su;obtain⟨i,i1,i2,i3,i4⟩:=hx x Su;have:f x=i:=by show(x.h.s-q).toNat=i;omega
  rw[this];exact⟨i1,i2,i4⟩
 have aG:(ps.map f).Pairwise (·<·):=by
  rw[rK];have acz:=K.asc;have vf:=K.nd;clear K
  induction ps with
  |nil=>exact List.Pairwise.nil
  |cons a ps ih=>
   rw[List.pairwise_cons]at acz⊢;rw[ku,List.nodup_cons]at vf;refine⟨fun b hb=>?_,ih (fun x h=>hx x (fA _ h)) (fun x h y h'=>hu x (fA _ h) y (fA _ h')) (fun x h=>hf x (fA _ h)) acz.2 vf.2⟩;have h7:=acz.1 b hb;have h8:a.h.s≠b.h.s:=fun e=>vf.1 (List.mem_map.2 ⟨b,hb,(hu a dC b (fA _ hb) e).symm⟩);obtain⟨i,_,_,i3,_⟩:=hx a dC;show(a.h.s-q).toNat<(b.h.s-q).toNat;omega
 refine⟨WR,nk,ps.map f,h1,h2,h3,by rw[bY],?_,aG,?_⟩
 ·intro j hj xF;rw[List.getElem_map];have:=hf _ (cX hj);exact⟨this.2.2,this.1⟩
 ·have:=ad2 aG (fun i hi=>by
   obtain⟨x,hx,rfl⟩:=List.mem_map.1 hi;exact⟨(hf x hx).1,(hf x hx).2.1⟩) h4
  rwa[bY]at this
end
theorem RG{es:List az}(h:dd es):∀k,k<=es.length->k8 [] (es.take k)=es.take k:=by
 intro k
 induction k with
 |zero=>intro _;rfl
 |succ k ih=>
  intro hk;rw[gB (by omega),CT,ih (by omega)];unfold fV;have aG:∀x∈es.take k,x.addr<(es[k]'(by omega)).addr:=by
   intro x hx;obtain⟨i,hi,rfl⟩:=List.getElem_of_mem hx;rw[dG]at hi;rw[List.getElem_take];exact(h.2 i k (by omega) (by omega) (by omega)).1
  rw[List.filter_eq_self.2 (fun x hx=>decide_eq_true (aG x hx)),List.filter_eq_nil_iff.2 (fun x hx=>by have:=aG x hx;simp;omega)]
theorem dd.inc{es:List az}(h:dd es):eU es:=by
 rw[eU,BM];intro i j hi hj rF;exact(h.2 i j hi hj rF).1
end
section
variable{s s':SM}{c c':CM}
def du(s:SM)(n:Int):Hd:=(aq s.hs n).getD Hd.zero
def eT(s:SM)(L:List Int):Int:=L.foldl (fun a n=>max a (du s n).s) 0
def dp(s:SM)(L:List Int):Int:=L.foldl (fun a n=>max a (du s n).g) 0
theorem K6(s:SM)(L:List Int)(n:Int):eT s (L++[n])=max (eT s L) (du s n).s:=by unfold eT;rw[List.foldl_append];rfl
theorem Hg(s:SM)(L:List Int)(n:Int):dp s (L++[n])=max (dp s L) (du s n).g:=by unfold dp;rw[List.foldl_append];rfl
theorem sM(f:Int->Int):∀(L:List Int) (a:Int),a<=L.foldl (fun a n=>max a (f n)) a∧∀n∈L,f n<=L.foldl (fun a n=>max a (f n)) a
 |[],a=>⟨bG _,fun n h=>absurd h (by simp)⟩
 |x::L,a=>by
  obtain⟨h1,h2⟩:=sM f L (max a (f x));rw[List.foldl_cons];refine⟨by omega,fun n hn=>?_⟩;rcases List.mem_cons.1 hn with rfl|e
  ·omega
  ·exact h2 n e
theorem Cp(f:Int->Int)(b:Int):∀(L:List Int) (a:Int),a<=b->(∀n∈L,f n<=b)->L.foldl (fun a n=>max a (f n)) a<=b
 |[],a,h,_=>h
 |x::L,a,h,hl=>by
  rw[List.foldl_cons];have:=hl x dC;exact Cp f b L _ (by omega) fun n hn=>hl n (fA _ hn)
def bc(s:SM):List Nat:=(List.range (s.B*s.P)).filter (kW s)
theorem cL(hC:aV s c):aC s=(bc s).map fun n:Nat=>(n:Int):=yH hC
theorem ig{n:Nat}:n∈bc s↔n<s.B*s.P∧(aq s.hs (n:Int)).isSome=true:=by
 unfold bc kW;rw[List.mem_filter,List.mem_range]
theorem aV.ye(hC:aV s c){n:Int}{h:Hd}(hl:aq s.hs n=some h):n∈aC s:=by
 obtain⟨m,rfl,hm,_⟩:=hC.has hl;rw[cL hC];exact List.mem_map.2 ⟨m,ig.2 ⟨hm,by rw[hl];rfl⟩,rfl⟩
theorem GP(hC:aV s c){n:Int}{h:Hd}(hl:aq s.hs n=some h):h.s<=eT s (aC s)∧h.g<=dp s (aC s):=by
 have hm:=hC.ye hl;have h1:=(sM (fun n=>(du s n).s) (aC s) 0).2 n hm;have h2:=(sM (fun n=>(du s n).g) (aC s) 0).2 n hm;have e:du s n=h:=by unfold du;rw[hl];rfl
 rw[<-e];exact⟨h1,h2⟩
theorem GQ(hC:aV s c){a b:Int}(ha:0<=a)(hb:0<=b)(h:∀(n:Nat) x,aq s.hs (n:Int)=some x->x.s<=a∧x.g<=b):(0<=eT s (aC s)∧eT s (aC s)<=a)∧(0<=dp s (aC s)∧dp s (aC s)<=b):=by
 have hm:∀n∈aC s,(du s n).s<=a∧(du s n).g<=b:=by
  intro n hn;rw[cL hC]at hn;obtain⟨m,hm,rfl⟩:=List.mem_map.1 hn;obtain⟨x,hx⟩:=Option.isSome_iff_exists.1 (ig.1 hm).2;unfold du;rw[hx];exact h m x hx
 exact⟨⟨(sM (fun n=>(du s n).s) (aC s) 0).1,Cp (fun n=>(du s n).s) a _ 0 ha fun n hn=>(hm n hn).1⟩,(sM (fun n=>(du s n).g) (aC s) 0).1,Cp (fun n=>(du s n).g) b _ 0 hb fun n hn=>(hm n hn).2⟩
def kN(s:SM):LM:=⟨[],0,dp s (aC s),eT s (aC s),[],[]⟩
def gS(l:LM)(n:Nat):Bool:=l.ad.contains n||l.T.any fun e=>decide (e.aW=(n:Int))
def X5(s:SM)(n:Nat):Bool:=decide ((du s n).k=4)||decide ((du s n).k=3)
def uG(s:SM)(l:LM)(n:Nat):Bool:=!gS l n||(X5 s n&& !l.ad.contains n)
def Bv(s:SM)(l:LM):SM:=dI s ((bc s).filter (uG s l))
theorem Cq(hC:aV s c)(l:LM):OT s c (fun m=>∃n∈(bc s).filter (uG s l),m=(n:Nat)) (Bv s l):=
 yh _ s hC ((List.nodup_range.filter _).filter _) fun n hn=>(ig.1 (List.mem_filter.1 hn).1).2
theorem wQ(hC:aV s c)(l:LM){n:Nat}{h:Hd}:aq (Bv s l).hs (n:Int)=some h↔aq s.hs (n:Int)=some h∧uG s l n=false:=by
 have D:=Cq hC l;constructor
 ·intro hx;by_cases e:∃m∈(bc s).filter (uG s l),(n:Int)=(m:Nat)
  ·rw[D.gone _ e]at hx;exact absurd hx (by simp)
  ·have h1:=D.stay _ e;rw[hx]at h1;refine⟨h1.symm,?_⟩;cases hb:uG s l n with
   |false=>rfl
   |true=>
    obtain⟨m,hm,aG,_⟩:=hC.has h1.symm;obtain rfl:n=m:=by omega
    exact absurd ⟨n,List.mem_filter.2 ⟨ig.2 ⟨aG,by rw[<-h1];rfl⟩,hb⟩,rfl⟩ e
 ·rintro⟨h1,h2⟩;rw[D.stay]
  ·exact h1
  ·rintro⟨m,hm,e⟩;obtain rfl:n=m:=by omega
   rw[(List.mem_filter.1 hm).2]at h2;exact absurd h2 (by decide)
theorem MK{N Z:Nat}{nm:List UInt8}{g q0 last aj:Int}{es:List az}{bK:List Nat}{nps:List NP}(C:uA c N Z nm g es bK nps q0 last aj):(bK++nps.map (·.p)).Nodup:=by
 rw[List.nodup_append];refine⟨?_,?_,?_⟩
 ·rw[vL,BM];intro i j hi hj rF e;have h1:=(C.cv i hi).2;have h2:=(C.cv j hj).2;rw[e,h2]at h1;injection h1 with h1;injection h1 with _ h1;have:q0+(j:Int)=q0+i:=congrArg Hd.s h1;omega
 ·rw[vL,rK];have FO:=C.nv;refine List.Pairwise.imp_of_mem ?_ C.nr;intro a b ha hb h e;have h1:=(FO a ha).2.1;have h2:=(FO b hb).2.1;rw[e,h2]at h1;injection h1 with h1;injection h1 with _ h1;have:b.q=a.q:=congrArg Hd.s h1;omega
 ·intro a ha b hb e;obtain⟨i,hi,rfl⟩:=List.getElem_of_mem ha;obtain⟨x,hx,rfl⟩:=List.mem_map.1 hb;have h1:=(C.cv i hi).2;have h2:=(C.nv x hx).2.1;rw[e,h2]at h1;injection h1 with h1;injection h1 with _ h1;have:(3:Int)=4:=congrArg Hd.k h1;omega
theorem Wc{nm:List UInt8}{g q0 last aj:Int}{es:List az}{bK:List Nat}{nps:List NP}(I:iy s c nm g es bK nps q0 last aj)(hL:Live s c){l:LM}(h1:l.name=nm)(h2:l.gen=g)(h3:l.aj=dp s (aC s))(h4:l.last=eT s (aC s))
  (h5:l.ad=bK++nps.map (·.p))(h6:l.T=aI es (nps.map (·.ns)).flatten)(h7:dd l.T)(h8:l.T.length<=64):z7 l (Bv s l) c es bK nps q0:=by
 have D:=Cq I.cont l;have C:=I.kX;have hN:(Bv s l).B*(Bv s l).P=s.B*s.P:=by rw[D.B,D.P]
 have On:=GQ I.cont C.l0 (by have:=C.g0;have:=C.gt;omega) (a:=last) (b:=aj) fun n x hx=>by
  obtain⟨m,e,hm,d,hd⟩:=I.cont.has hx;exact C.le m d x hm hd
 have Mn:∀n∈l.ad,n<s.B*s.P∧∃h,aq s.hs (n:Int)=some h∧(h.k=3∨h.k=4):=by
  intro n hn;rw[h5]at hn;rcases List.mem_append.1 hn with hn|hn
  ·obtain⟨i,hi,rfl⟩:=List.getElem_of_mem hn;obtain⟨a,b⟩:=C.cv i hi;exact⟨a,_,I.look a b,aE rfl⟩
  ·obtain⟨x,hx,rfl⟩:=List.mem_map.1 hn;obtain⟨a,b,_⟩:=C.nv x hx;exact⟨a,_,I.look a b,aQ rfl⟩
 refine⟨D.live hL,⟨D.cont,rfl,rfl,?_,?_,?_⟩,?_,h5,h6,h7,h8⟩
 ·intro n hn;obtain⟨_,h,hh,hk⟩:=Mn n hn;refine⟨h,(wQ I.cont l).2 ⟨hh,?_⟩,hk⟩;unfold uG gS;have:l.ad.contains n=true:=List.contains_iff_mem.2 hn;rw[this];simp
 ·intro n h hx hk;obtain⟨m,rfl,_⟩:=D.cont.has hx;obtain⟨e1,e2⟩:=(wQ I.cont l).1 hx;unfold uG X5 du at e2;rw[e1]at e2;refine⟨m,?_,rfl⟩;have hb:(decide (h.k=4)||decide (h.k=3))=true:=by rcases hk with hk|hk<;>simp[hk]
  simp only[Option.getD_some,Bool.or_eq_false_iff]at e2;obtain⟨_,e3⟩:=e2;rw[hb,Bool.true_and]at e3;have e4:l.ad.contains m=true:=by simpa using e3
  exact List.contains_iff_mem.1 e4
 ·rw[h5];exact MK C
 ·rw[hN,D.Z,h1,h2,h3,h4];refine⟨C.low,C.lA,C.len,C.cl,C.cv,C.nv,C.nr,C.D0,C.ZL,C.part,?_,C.g0,?_,On.1.1⟩
  ·intro n d h hn hv;exact GP I.cont (I.look hn hv)
  ·obtain⟨i0,tI⟩:∃i,i<bK.length:=⟨0,by rw[C.cl];exact jB _ _⟩;obtain⟨a,b⟩:=C.cv i0 tI;exact(GP I.cont (I.look a b)).2
end
end Go.Proofs.YtalnifciidblkaaGreatDoor
