/-
  Lemmas.
-/
import Derived.Test.YtalnifciidblkaaGreatDoorG05
namespace Go.Proofs.YtalnifciidblkaaGreatDoor
open Go.RowKit
set_option linter.unusedSimpArgs false
set_option linter.unusedVariables false
set_option maxRecDepth 20000
section
variable{s s':SM}{c c':CM}
theorem B6{B P Z:Nat}{marks:List Int}{ms:List Mi}{k:Nat}{x:CB}(h:(CM.new B P Z marks ms).blocks[k]?=some x):k<B∧x=CB.new P Z (marks.contains (k:Int)):=by
 have hk:k<B:=by have:=(List.getElem?_eq_some_iff.1 h).1;simpa[CM.new]using this
 refine⟨hk,?_⟩;have h2:(CM.new B P Z marks ms).blocks[k]?=some (CB.new P Z (marks.contains (k:Int))):=by
  show((List.range B).map fun k:Nat=>CB.new P Z (marks.contains (k:Int)))[k]?=_;rw[dW,pf hk];rfl
 rw[h2]at h;injection h with h;exact h.symm
theorem R8{B P Z:Nat}{marks:List Int}{ms:List Mi}(k:Nat)(x:CB)(h:(CM.new B P Z marks ms).blocks[k]?=some x):x.shape P Z:=by
 obtain⟨_,rfl⟩:=B6 h;refine⟨?_,bG _,by show(0:Int)<=P;omega,fun p _ hp=>E6 hp⟩;show(gQ P Z).length=P;unfold gQ;rw[gV]
theorem NY{k:Int}(h1:c.bu k=0):(fJ s c k).2=(c,0):=by
 have hA:fq s c k=(s,c,0):=by unfold fq;rw[if_neg (by omega)]
 unfold fJ;rw[hA,if_neg (by simp)];unfold qj;split<;>rfl
theorem Ia(h:∀k:Nat,c.bu k=0)(n:Nat):∀(k:Nat) (s:SM),(dM n k s c).2=(c,0):=by
 induction n with
 |zero=>intro k s;rfl
 |succ n ih=>
  intro k s;have e:=NY (s:=s) (h k);rw[dM,show(fJ s c k).2.2=0 by rw[e],if_neg (by simp),show(fJ s c k).2.1=c by rw[e]];exact ih (k+1) _
theorem FC(marks:List Int)(ms:List Mi)(ik:lH ((CM.new 16 4 128 marks ms).blocks.length:Int) (CM.new 16 4 128 marks ms).P (CM.new 16 4 128 marks ms).Z=true):
  (bW (CM.new 16 4 128 marks ms)).2=(CM.new 16 4 128 marks ms,0)∧aV (bW (CM.new 16 4 128 marks ms)).1 (CM.new 16 4 128 marks ms)∧Live (bW (CM.new 16 4 128 marks ms)).1 (CM.new 16 4 128 marks ms)∧(bW (CM.new 16 4 128 marks ms)).1.op=-1∧
   ((bW (CM.new 16 4 128 marks ms)).1.B=16∧(bW (CM.new 16 4 128 marks ms)).1.P=4∧(bW (CM.new 16 4 128 marks ms)).1.Z=128)∧∀j q:Nat,j<16->q<4->aq (bW (CM.new 16 4 128 marks ms)).1.hs ((j:Int)*4+q)=none:=by
 have cz:(bW (CM.new 16 4 128 marks ms)).2=(CM.new 16 4 128 marks ms,0):=Ia (fun k=>J4 16 4 128 marks ms k) _ _ _;have hlen:(CM.new 16 4 128 marks ms).blocks.length=16:=by simp[CM.new]
 obtain⟨a1,a2⟩:=tA (c:=CM.new 16 4 128 marks ms) ik rfl (fun k x h=>R8 k x h);have hv:∀j q:Nat,j<16->q<4->(CM.new 16 4 128 marks ms).ly j q=none:=by
  intro j q hj hq;cases hb:(CM.new 16 4 128 marks ms).blocks[j]? with
  |none=>exact J5 hb q
  |some x=>
   rw[j8 hb];obtain⟨_,rfl⟩:=B6 hb;exact GJ 4 156 255 _ rfl (by omega) q
 generalize bW (CM.new 16 4 128 marks ms)=r at*;obtain⟨r1,r2⟩:=r;dsimp only at cz;subst cz;dsimp only at a2;rcases a2 with⟨h4,_⟩|⟨_,b1,b2,b3,b4,b5,b6,b7⟩
 ·exact absurd h4 (by decide)
 ·refine⟨rfl,b1,b2,b3,⟨b4.trans hlen,b5,b6⟩,fun j q hj hq=>?_⟩;have:=b7 j q (by rw[hlen];exact hj) hq;rw[hv j q hj hq]at this;exact this
theorem Kq:lH ((CM.new 16 4 128 [] []).blocks.length:Int) (CM.new 16 4 128 [] []).P (CM.new 16 4 128 [] []).Z=true:=by kernel_rfl
theorem Vn:aV Jc Jb∧Live Jc Jb∧∀j q:Nat,j<16->q<4->aq Jc.hs ((j:Int)*4+q)=none:=by
 obtain⟨_,h2,h3,_,_,h6⟩:=FC [] [] Kq;have e:(bW (CM.new 16 4 128 [] [])).1=Jc:=by have:=awN;show(bW Jb).1=Jc;rw[this]
 rw[e]at h2 h3 h6;exact⟨h2,h3,h6⟩
theorem Vo{k:Nat}{x:CB}(h:Jb.blocks[k]?=some x):x=CB.new 4 128 false:=by
 obtain⟨_,h2⟩:=B6 (marks:=[]) (ms:=[]) h;exact h2
end
section
variable{s s':SM}{c c':CM}
def rW(κ:Int)(i:Nat):Hd:=⟨κ,i,1+i,0⟩
theorem yN(n:Int):(br n 128).length=128:=by unfold br;simp
theorem Y4{κ:Int}{i:Nat}(hκ:κ=1∨κ=2)(hi:i<=1000):(rW κ i).may=true∧zW (rW κ i):=by
 refine⟨?_,by show(0:Int)<=i;omega,by show(i:Int)<18446744073709551616;omega⟩;unfold Hd.may rW;simp;omega
structure Qo(κ:Int)(L:List (Nat×Nat))(s:SM)(c:CM):Prop where
 cont:aV s c
 ja:s.B=16∧s.P=4∧s.Z=128
 has:∀n i,(n,i)∈L->n<64∧aq s.hs (n:Int)=some (rW κ i)∧c.ly (n/4) (n%4)=some (br i 128,rW κ i)
structure qV(N κ:Int)(mk:Nat->Bool)(M:Int)(L:List (Nat×Nat))(s:SM)(c:CM):Prop where
 has:Qo κ L s c
 live:Live s c
 calm:Calm c N
 kT:c.bZ=0
 only:∀n:Nat,n<64->aq s.hs (n:Int)≠none->∃i,(n,i)∈L
 nodup:(L.map (·.1)).Nodup
 shut:∀(j:Nat) (x:CB),c.blocks[j]?=some x->s.op≠(j:Int)->x.next=0∨x.next=4
 mark:∀(j:Nat) (x:CB),c.blocks[j]?=some x->x.mark=mk j
 ops:0<=c.ops∧c.ops<=M
 msk:∀m∈c.ms,m.kind≠2
def aaA(mk:Nat->Bool)(s:SM)(c:CM):Prop:=∀j:Nat,j<16->mk j=false->c.bu j=4∧∃q:Nat,q<4∧aq s.hs ((j*4+q:Nat):Int)≠none
theorem iF(k p:Nat):((k*4+p:Nat):Int)=(k:Int)*((4:Nat):Int)+p:=by simp
theorem nZ(n:Nat):n/4*4+n%4=n:=by omega
theorem qV.put{N κ:Int}{mk:Nat->Bool}{M:Int}{L:List (Nat×Nat)}(I:qV N κ mk M L s c)(hN:M+2<=N){i:Nat}(hi:i<=1000)(hκ:κ=1∨κ=2):
  (bn s c (rW κ i) (br i 128)=(s,c,0,7)∧aaA mk s c)∨
  ∃p:Nat,(bn s c (rW κ i) (br i 128)).2.2=((p:Int),0)∧p<64∧aq s.hs (p:Int)=none∧mk (p/4)=false∧qV N κ mk (M+2) ((p,i)::L) (bn s c (rW κ i) (br i 128)).1 (bn s c (rW κ i) (br i 128)).2.1∧
   (∀j:Nat,j≠p/4->(bn s c (rW κ i) (br i 128)).2.1.bu j=c.bu j)∧(bn s c (rW κ i) (br i 128)).2.1.bu (p/4:Nat)<=c.bu (p/4:Nat)+1∧
   ((∀j:Nat,j<16->0<c.bu j->¬gR s j)->(bn s c (rW κ i) (br i 128)).2.1.ops=c.ops+1∧∀j:Nat,j<16->0<(bn s c (rW κ i) (br i 128)).2.1.bu j->¬gR (bn s c (rW κ i) (br i 128)).1 j):=by
 obtain⟨⟨hC,⟨hB,hP,hZ⟩,BC⟩,hL,hK,TS,U3,vf,OZ,EC,fI,acK⟩:=I;obtain⟨hm,iu⟩:=Y4 hκ hi;have im:=hC.Bc;obtain⟨R,ajA⟩:=Cg hC hL hK (by omega) hm iu (d:=br i 128) (by rw[hZ];exact yN _);rcases ajA with⟨e,h0,hE⟩|⟨k,p,x,x',Q⟩
 ·refine aQ ⟨e,fun j hj hmj=>?_⟩;obtain⟨x,hx⟩:=hC.rY (k:=j) (by omega);have Su:x.mark=false:=(EC j x hx).trans hmj;have qG:¬gR s j:=by
   intro hn;have:(j:Int)∈dR s c:=(rq hC).2 ⟨j,rfl,by omega,(fe hC hx).2 ⟨Su,hn,aE h0⟩⟩;rw[hE]at this;exact absurd this (by simp)
  have hq:∃q:Nat,q<4∧aq s.hs ((j*4+q:Nat):Int)≠none:=by
   refine Classical.byContradiction fun ei=>qG fun q hq=>?_;rw[hP]at hq⊢;refine Classical.byContradiction fun h2=>ei ⟨q,hq,?_⟩;rw[iF];exact h2
  refine⟨?_,hq⟩;rw[mL hx];obtain⟨q,DI,FL⟩:=hq;by_cases ho:s.op=(j:Int)
  ·rw[left_at hC ho hx,hP]at h0;omega
  ·rcases OZ j x hx ho with h|h
   ·have:=(hC.OS hx (p:=q) (by rw[hP];exact DI) (by omega)).1;rw[hP,<-iF]at this;exact absurd this FL
   ·exact h
 ·refine aE ⟨k*4+p,?_⟩;generalize bn s c (rW κ i) (br i 128)=r at R Q;have hkB:k<16:=by rw[<-hB];exact Q.kb
  have LG:p<4:=by rw[<-hP];exact Q.pb
  have tI:=(List.getElem?_eq_some_iff.1 Q.pY).1;have e1:(k*4+p)/4=k:=by omega
  have e2:(k*4+p)%4=p:=by omega
  have rM:aq s.hs ((k*4+p:Nat):Int)=none:=by have f:=Q.free;rw[hP,<-iF]at f;exact f
  have nV:∀m,aq r.1.hs m=if m=((k*4+p:Nat):Int)then some (rW κ i)else aq s.hs m:=by
   intro m;have e:=Q.hs;rw[hP,<-iF]at e;rw[e];exact lg _ m rM
  have ah0:r.2.1.blocks[k]?=some x':=by rw[Q.T7,dx _ _ _ _ tI,if_pos rfl]
  have hxj:∀j:Nat,j≠k->r.2.1.blocks[j]?=c.blocks[j]?:=by intro j hj;rw[Q.T7,dx _ _ _ _ tI,if_neg (Ne.symm hj)]
  have hnj:∀j:Nat,j≠k->r.2.1.bu j=c.bu j:=by intro j hj;unfold CM.bu;rw[qW,qW,hxj j hj]
  have hnk:=mL ah0;have ah1:=mL Q.pY;have Dr:=Q.next;have au2:=(hC.shape k x Q.pY).2.1;rw[e1];refine⟨by rw[Q.code,hP,<-iF],by omega,rM,?_,⟨⟨R.cont,⟨R.B.trans hB,R.P.trans hP,R.Z.trans hZ⟩,?_⟩,Q.live,Q.calm,R.kT.trans TS,?_,?_,?_,?_,?_,by rw[R.ms];exact acK⟩,hnj,?_,?_⟩
  ·rw[<-EC k x Q.pY];exact Q.mark.1
  ·intro n a ha;rcases List.mem_cons.1 ha with h|h
   ·injection h with h1 h2;subst h1 h2;refine⟨by omega,by rw[nV,if_pos rfl],?_⟩;rw[e1,e2];exact Q.val
   ·obtain⟨h1,h2,h3⟩:=BC n a h;have ei:n≠k*4+p:=by intro e;rw[e,rM]at h2;exact absurd h2 (by simp)
    refine⟨h1,by rw[nV,if_neg (by omega)];exact h2,?_⟩;have lP:aq s.hs ((n/4:Nat)*(s.P:Int)+(n%4:Nat))=some (rW κ a):=by
     rw[hP,<-iF,nZ];exact h2
    rw[R.keep (n/4) (n%4) _ (by omega) (by omega) lP];exact h3
  ·intro n hn ei;rw[nV]at ei;by_cases e:(n:Int)=((k*4+p:Nat):Int)
   ·exact⟨i,by rw[show n=k*4+p by omega];exact dC⟩
   ·rw[if_neg e]at ei;obtain⟨a,ha⟩:=U3 n hn ei;exact⟨a,fA _ ha⟩
  ·rw[ku,List.nodup_cons];refine⟨fun oY=>?_,vf⟩;obtain⟨⟨n,a⟩,h1,h2⟩:=List.mem_map.1 oY;have Tt:n=k*4+p:=h2;obtain⟨_,h3,_⟩:=BC n a h1;rw[Tt,rM]at h3;exact absurd h3 (by simp)
  ·intro j xj hj ei;rw[Q.op]at ei;have qE:j≠k:=by omega
   rw[hxj j qE]at hj;by_cases ho:s.op=(j:Int)
   ·rcases Q.Bd with⟨_,h2,_⟩|⟨h1,_⟩
    ·omega
    ·rw[left_at hC ho hj,hP]at h1;exact aE (by omega)
   ·exact OZ j xj hj ho
  ·intro j xj hj;by_cases e:j=k
   ·subst e;rw[ah0]at hj;injection hj with hj;rw[<-hj,<-EC j x Q.pY,Q.mark.1,Q.mark.2]
   ·rw[hxj j e]at hj;exact EC j xj hj
  ·have:=Q.ops;omega
  ·rw[hnk,ah1];rcases Q.Bd with⟨_,_,h3,_⟩|⟨_,h2,_⟩<;>omega
  ·intro hu;constructor
   ·rcases Q.Bd with⟨_,_,_,_,h5⟩|⟨_,_,_,h4,_,h6⟩
    ·exact h5
    ·rw[h6,if_neg];intro tP;exact hu k hkB (by rw[ah1];exact tP) h4
   ·intro j hj tP hn;have hPr:r.1.P=4:=R.P.trans hP;by_cases e:j=k
    ·subst e;have:=hn p (by rw[hPr];exact LG);rw[hPr,<-iF,nV,if_pos rfl]at this;exact absurd this (by simp)
    ·rw[hnj j e]at tP;refine hu j hj tP fun q hq=>?_;have h1:=hn q (by rw[hPr,<-hP];exact hq);rw[hP]at hq⊢;rw[hPr,<-iF,nV]at h1;rw[<-iF];split at h1
     ·exact absurd h1 (by simp)
     ·exact h1
theorem qV.drop{N κ:Int}{mk:Nat->Bool}{M:Int}{L:List (Nat×Nat)}(I:qV N κ mk M L s c){n i:Nat}(hn:(n,i)∈L):(fF s n).2=0∧qV N κ mk M (L.filter fun q=>decide (q.1≠n)) (fF s n).1 c:=by
 obtain⟨⟨hC,⟨hB,hP,hZ⟩,BC⟩,hL,hK,TS,U3,vf,OZ,EC,fI,acK⟩:=I;obtain⟨h1,h2,h3⟩:=BC n i hn;have lP:aq s.hs ((n/4:Nat)*(s.P:Int)+(n%4:Nat))=some (rW κ i):=by
  rw[hP,<-iF,nZ];exact h2
 obtain⟨d1,d2,d3,d4,d5,d6,d7,d8⟩:=Fe hC (k:=n/4) (p:=n%4) (by omega) (by omega) lP;rw[hP,<-iF,nZ]at d1 d2 d3 d4 d5 d6 d7 d8;refine⟨d1,⟨⟨d2,⟨d4.trans hB,d5,d6.trans hZ⟩,?_⟩,d3 hL,hK,TS,?_,?_,?_,EC,fI,acK⟩⟩
 ·intro m a ha;obtain⟨AY,As⟩:=List.mem_filter.1 ha;obtain⟨q1,q2,q3⟩:=BC m a AY;have ei:m≠n:=by simpa using As
  exact⟨q1,by rw[d8,if_neg (by omega)];exact q2,q3⟩
 ·intro m hm ei;rw[d8]at ei;by_cases e:(m:Int)=n
  ·rw[if_pos e]at ei;exact absurd rfl ei
  ·rw[if_neg e]at ei;obtain⟨a,ha⟩:=U3 m hm ei;exact⟨a,List.mem_filter.2 ⟨ha,by simp;omega⟩⟩
 ·exact vf.sublist (List.filter_sublist.map _)
 ·rw[d7];exact OZ
theorem Qo.get{κ:Int}{L:List (Nat×Nat)}(I:Qo κ L s c)(fi:c.on=true)(LQ:∀m∈c.ms,m.kind≠2){n i:Nat}(hn:(n,i)∈L):
  (oq s c n).2=(br i 128,rW κ i,0)∧Reads c (oq s c n).1∧(oq s c n).1.on=true:=by
 obtain⟨hC,⟨hB,hP,hZ⟩,BC⟩:=I;obtain⟨h1,h2,h3⟩:=BC n i hn;have lP:aq s.hs ((n/4:Nat)*(s.P:Int)+(n%4:Nat))=some (rW κ i):=by
  rw[hP,<-iF,nZ];exact h2
 obtain⟨g1,g2⟩:=J6 hC (k:=n/4) (p:=n%4) (by omega) (by omega) lP h3;rw[hP,<-iF,nZ]at g1 g2;rcases g2 with⟨q1,q2,q3⟩|⟨_,_,q3⟩
 ·exact⟨q1,g1,q3⟩
 ·obtain⟨_,m,m1,m2,_⟩:=q3 fi;exact absurd m2 (LQ m m1)
theorem Qo.reads{κ:Int}{L:List (Nat×Nat)}(I:Qo κ L s c)(g:Reads c c'):Qo κ L s c':=⟨I.cont.reads g,I.ja,fun n i h=>by rw[g.ly];exact I.has n i h⟩
theorem ad3:∀(n:Nat) (L:List Nat),(∀j,j<n->j∈L)->n<=L.length:=by
 intro n
 induction n with
 |zero=>intro L _;omega
 |succ n ih=>
  intro L h;have hn:=h n (by omega);have h1:=ih (L.erase n) fun j hj=>(List.mem_erase_of_ne (by omega)).2 (h j (by omega));rw[List.length_erase_of_mem hn]at h1;have:=List.length_pos_of_mem hn;omega
theorem qV.few{N κ:Int}{mk:Nat->Bool}{M:Int}{L:List (Nat×Nat)}(I:qV N κ mk M L s c)(yU:∀j,mk j=false)(hl:L.length<16):¬aaA mk s c:=by
 intro hf;have:=ad3 16 (L.map fun q=>q.1/4) fun j hj=>by
  obtain⟨_,q,hq,ei⟩:=hf j hj (yU j);obtain⟨i,hi⟩:=I.only (j*4+q) (by omega) ei;exact List.mem_map.2 ⟨_,hi,by show(j*4+q)/4=j;omega⟩
 rw[bY]at this;omega
end
section
variable{s s':SM}{c c':CM}
structure zk(n:Nat)(pg:List Nat)(o:Int)(s:SM)(c:CM)(L:List (Nat×Nat)):Prop where
 law:qV 1000000 1 (fun _=>false) (2*n) L s c
 has:∀j (h:j<pg.length),(pg[j],j)∈L
 few:L.length<=pg.length+(if o<0 then 0 else 1)
 neg:o<0->o=-1
 old:0<=o->∃on i:Nat,o=on∧(on,i)∈L∧∀q∈pg,q≠on
theorem N2{α:Type}(p:α->Bool)(l:List α){a:α}(h:a∈l)(hp:p a=false):(l.filter p).length+1<=l.length:=by
 have:=filter_lt p (fun _=>true) l (fun _ _=>rfl) h rfl hp;rw[List.filter_eq_self.2 (fun _ _=>rfl)]at this;omega
theorem zk.put{n:Nat}{pg:List Nat}{o:Int}{L:List (Nat×Nat)}(I:zk n pg o s c L)(kg:pg.length<=12)(hn:n<=320):
  ∃p:Nat,(bn s c (rW 1 n) (br n 128)).2.2=((p:Int),0)∧p<64∧
   (o<0->o=-1∧∃L',zk (n+1) pg p (bn s c (rW 1 n) (br n 128)).1 (bn s c (rW 1 n) (br n 128)).2.1 L'∧(pg.length=n->zk (n+1) (pg++[p]) (-1) (bn s c (rW 1 n) (br n 128)).1 (bn s c (rW 1 n) (br n 128)).2.1 L'))∧
   (0<=o->(fF (bn s c (rW 1 n) (br n 128)).1 o).2=0∧∃L',zk (n+1) pg p (fF (bn s c (rW 1 n) (br n 128)).1 o).1 (bn s c (rW 1 n) (br n 128)).2.1 L'∧(pg.length=n->zk (n+1) (pg++[p]) (-1) (fF (bn s c (rW 1 n) (br n 128)).1 o).1 (bn s c (rW 1 n) (br n 128)).2.1 L')):=by
 obtain⟨hI,BC,acY,Jo,hold⟩:=I;have aox:L.length<16:=by split at acY<;>omega
 rcases hI.put (by omega) (i:=n) (by omega) (aQ rfl)with⟨_,hf⟩|⟨p,e1,e2,e3,e4,e5,_⟩
 ·exact absurd hf (hI.few (fun _=>rfl) aox)
 ·generalize bn s c (rW 1 n) (br n 128)=r at*;have e5':qV 1000000 1 (fun _=>false) (2*((n+1:Nat):Int)) ((p,n)::L) r.1 r.2.1:=by
   have e:2*((n+1:Nat):Int)=2*(n:Int)+2:=by omega
   rw[e];exact e5
  have hpq:∀q i,(q,i)∈L->q≠p:=by
   intro q i h e;have:=(hI.has.has q i h).2.1;rw[e,e3]at this;exact absurd this (by simp)
  have fin:∀(t:SM) (L':List (Nat×Nat)),qV 1000000 1 (fun _=>false) (2*((n+1:Nat):Int)) L' t r.2.1->(∀j (h:j<pg.length),(pg[j],j)∈L')->(p,n)∈L'->L'.length<=pg.length+1->
    zk (n+1) pg p t r.2.1 L'∧(pg.length=n->zk (n+1) (pg++[p]) (-1) t r.2.1 L'):=by
   intro t L' h1 h2 h3 h4;constructor
   ·refine⟨h1,h2,by rw[if_neg (by omega)];exact h4,by omega,fun _=>⟨p,n,rfl,h3,fun q hq=>?_⟩⟩;obtain⟨j,hj,rfl⟩:=List.mem_iff_getElem.1 hq;exact hpq _ _ (BC j hj)
   ·intro hlen;refine⟨h1,?_,by rw[if_pos (by omega),aY];simp;omega,fun _=>rfl,by omega⟩;intro j hj;rw[aY]at hj;by_cases e:j<pg.length
    ·rw[Ev e];exact h2 j e
    ·have:j=pg.length:=by simp at hj;omega
     subst this;rw[List.getElem_append_right (aN _)];simp only[qg,List.getElem_cons_zero];rw[hlen];exact h3
  refine⟨p,e1,e2,?_,?_⟩
  ·intro ho;refine⟨Jo ho,_,fin r.1 _ e5' (fun j hj=>fA _ (BC j hj)) dC ?_⟩;rw[if_pos ho]at acY;rw[fC];omega
  ·intro ho;obtain⟨on,i,rfl,h2,h3⟩:=hold ho;rw[if_neg (by omega)]at acY;obtain⟨d1,d2⟩:=e5'.drop (fA _ h2);refine⟨d1,_,fin _ _ d2 ?_ ?_ ?_⟩
   ·intro j hj;exact List.mem_filter.2 ⟨fA _ (BC j hj),by simpa using h3 _ (cX hj)⟩
   ·exact List.mem_filter.2 ⟨dC,by simpa using(hpq on i h2).symm⟩
   ·have:=N2 (fun q:Nat×Nat=>decide (q.1≠on)) ((p,n)::L) (fA _ h2) (by simp);rw[fC]at this;omega
end
section
variable{s s':SM}{c c':CM}
def Jx(mk:Nat->Bool)(n:Nat):Nat:=((List.range n).filter mk).length
theorem yP(mk:Nat->Bool)(n:Nat):Jx mk (n+1)=if mk n then Jx mk n+1 else Jx mk n:=by
 unfold Jx;rw[zm];split
 ·rw[aY];rfl
 ·rfl
theorem Sb{mk:Nat->Bool}(h:∀j,mk j=false)(n:Nat):Jx mk n=0:=by
 induction n with
 |zero=>rfl
 |succ n ih=>rw[yP,h,if_neg (by simp),ih]
theorem qV.eZ{N κ:Int}{mk:Nat->Bool}{M:Int}{L:List (Nat×Nat)}(I:qV N κ mk M L s c){j:Nat}(hj:j<16):c.eZ (j:Int)=mk j:=by
 obtain⟨x,hx⟩:=I.has.cont.rY (k:=j) (by rw[I.has.ja.1];exact hj);rw[AF hx];exact I.mark j x hx
end
section
variable{s s':SM}{c c':CM}
def xX(f:Nat->Int):Nat->Int
 |0=>0
 |n+1=>xX f n+f n
theorem Sc{f g:Nat->Int}{k:Nat}(n:Nat)(h1:∀j,j≠k->g j=f j)(h2:g k<=f k+1):xX g n<=xX f n+1∧(n<=k->xX g n=xX f n):=by
 induction n with
 |zero=>exact⟨by show(0:Int)<=0+1;omega,fun _=>rfl⟩
 |succ n ih=>
  obtain⟨a,b⟩:=ih;show xX g n+g n<=xX f n+f n+1∧(n+1<=k->xX g n+g n=xX f n+f n);by_cases e:n=k
  ·subst e;have:=b (aN _);exact⟨by omega,by omega⟩
  ·have:=h1 n e;refine⟨by omega,fun h=>?_⟩;have:=b (by omega);omega
theorem Sd{f:Nat->Int}{mk:Nat->Bool}(n:Nat)(h0:∀j,0<=f j)(h:∀j,j<n->mk j=false->f j=4):4*((n:Int)-Jx mk n)<=xX f n:=by
 induction n with
 |zero=>show 4*((0:Int)-((Jx mk 0:Nat):Int))<=0;have:Jx mk 0=0:=rfl;omega
 |succ n ih=>
  have:=ih fun j hj=>h j (by omega);show _<=xX f n+f n;rw[yP];cases hm:mk n with
  |true=>rw[if_pos rfl];have:=h0 n;omega
  |false=>rw[if_neg (by simp)];have:=h n (by omega) hm;omega
def bB(f:Nat->Bool)(n:Nat):Nat:=((List.range n).filter f).length
theorem ef(f:Nat->Bool)(n:Nat):bB f (n+1)=if f n then bB f n+1 else bB f n:=yP f n
theorem uX{f g:Nat->Bool}{k:Nat}(n:Nat)(h1:∀j,j<n->j≠k->g j=f j)(hf:f k=false)(hg:g k=true):bB g n=if k<n then bB f n+1 else bB f n:=by
 induction n with
 |zero=>rw[if_neg (by omega)];rfl
 |succ n ih0=>
  have ih:=ih0 fun j hj=>h1 j (by omega);by_cases e:n=k
  ·subst e;have ih':bB g n=bB f n:=by rw[ih,if_neg (by omega)]
   rw[ef g,ef f,hf,hg,ih',if_pos (show n<n+1 by omega)];simp
  ·by_cases e2:k<n
   ·have ih':bB g n=bB f n+1:=by rw[ih,if_pos e2]
    rw[ef g,ef f,h1 n (by omega) e,ih',if_pos (show k<n+1 by omega)];split<;>rfl
   ·have ih':bB g n=bB f n:=by rw[ih,if_neg e2]
    rw[ef g,ef f,h1 n (by omega) e,ih',if_neg (show¬k<n+1 by omega)]
theorem C7(f:Nat->Bool)(n:Nat):(yg f n).length=bB f n:=by unfold yg bB;rw[bY]
theorem FF(f:Nat->Bool)(k:Nat):bB f ((k+1)*4)=bB f (k*4)+bB (fun p=>f (k*4+p)) 4:=by
 unfold bB;rw[Ff,oA,aY,List.filter_map,bY];rfl
theorem Kr(f:Nat->Bool)(n m:Nat)(h:∀j,j<n->f j=true->j<m):bB f n<=m:=by
 induction n with
 |zero=>exact Nat.zero_le _
 |succ n ih=>
  rw[ef];have:=ih fun j hj=>h j (by omega);split
  ·next hf=>
   have h1:=h n (by omega) hf;have h2:bB f n<=n:=by unfold bB;have:=mU f (List.range n);rw[fP]at this;exact this
   omega
  ·exact this
theorem C8(f:Nat->Bool)(n:Nat)(h:∀j,j<n->f j=false):bB f n=0:=by
 have:=Kr f n 0 fun j hj ht=>by rw[h j hj]at ht;exact absurd ht (by simp)
 omega
theorem room_le(hC:aV s c)(hB:s.B=16)(hP:s.P=4):bE s c+bB (kW s) 64<=64:=by
 have hlen:(dR s c).length=bB (bq s c) 16:=by
  unfold dR pU;rw[tw];unfold ga bB;rw[bY];have:(dV s c).length=16:=by unfold dV;rw[bY,fP,hB]
  rw[this];congr 1;refine List.filter_congr fun j hj=>?_;have xF:=List.mem_range.1 hj;unfold dV;rw[jR,dW,pf (by omega)];rfl
 have key:∀k:Nat,k<=16->(bB (kW s) (k*4):Int)+4*(bB (bq s c) k:Int)+(if s.op<k then dK s c else 0)<=4*k:=by
  intro k
  induction k with
  |zero=>
   intro _;have h1:bB (kW s) (0*4)=0:=rfl;have h2:bB (bq s c) 0=0:=rfl;rw[h1,h2];split
   ·have:=hC.Bc;have:s.op=-1:=by omega
    unfold dK;rw[if_pos this];omega
   ·omega
  |succ k ih=>
   intro hk;have IH:=ih (by omega);obtain⟨x,hx⟩:=hC.rY (k:=k) (by omega);have Ax:=hC.shape k x hx;have hiN:∀p:Nat,kW s (k*4+p)=(aq s.hs ((k:Int)*s.P+p)).isSome:=by
    intro p;unfold kW;rw[hP,<-iF]
   rw[FF,ef (bq s c) k];have ff:bB (fun p=>kW s (k*4+p)) 4<=x.next.toNat:=by
    refine Kr _ 4 _ fun p hp ht=>?_;rw[hiN]at ht;cases e:aq s.hs ((k:Int)*s.P+p)with
    |none=>rw[e]at ht;exact absurd ht (by simp)
    |some h=>have:=hC.below hx (by rw[hP];exact hp) e;omega
   have hn4:=Ax.2.2.1;have uZ:=Ax.2.1;cases hb:bq s c k with
   |true=>
    rw[if_pos rfl];obtain⟨_,qG,im⟩:=(fe hC hx).1 hb;have hz:bB (fun p=>kW s (k*4+p)) 4=0:=C8 _ _ fun p hp=>by
     rw[hiN,qG p (by rw[hP];exact hp)];rfl
    rw[hz];by_cases ho:s.op=(k:Int)
    ·have h0:dK s c=0:=im.resolve_left fun h=>h ho;rw[if_neg (by omega)]at IH;split<;>omega
    ·by_cases h1:s.op<(k:Int)
     ·rw[if_pos h1]at IH;rw[if_pos (by omega)];omega
     ·rw[if_neg h1]at IH;rw[if_neg (by omega)];omega
   |false=>
    rw[if_neg (by simp)];by_cases ho:s.op=(k:Int)
    ·have:=left_at hC ho hx;rw[if_neg (by omega)]at IH;rw[if_pos (by omega)];rw[hP]at this hn4;omega
    ·rw[hP]at hn4;by_cases h1:s.op<(k:Int)
     ·rw[if_pos h1]at IH;rw[if_pos (by omega)];omega
     ·rw[if_neg h1]at IH;rw[if_neg (by omega)];omega
 have K:=key 16 (aN _);have im:=hC.Bc;rw[if_pos (by omega)]at K;unfold bE;rw[hlen,hP];have e:(16*4:Nat)=64:=rfl;rw[e]at K;omega
theorem qV.kW{N κ:Int}{mk:Nat->Bool}{M:Int}{L:List (Nat×Nat)}(I:qV N κ mk M L s c){m:Nat}(hm:m<64):kW s m=true↔∃i,(m,i)∈L:=by
 unfold Go.Proofs.YtalnifciidblkaaGreatDoor.kW;constructor
 ·intro h;exact I.only m hm fun e=>by rw[e]at h;exact absurd h (by simp)
 ·rintro⟨i,hi⟩;rw[(I.has.has m i hi).2.1];rfl
structure PlI(n:Nat)(is:Nat->Bool)(at_:Nat->Nat)(left:Nat)(s:SM)(c:CM)(L:List (Nat×Nat)):Prop where
 law:qV 1000000 2 (fun _=>false) (2*n) L s c
 tot:xX (fun j=>c.bu j) 16<=n
 tV:bB (Go.Proofs.YtalnifciidblkaaGreatDoor.kW s) 64=left
 iff:∀p i,(p,i)∈L↔(p<64∧is p=true∧at_ p=i)
 small:∀p i,(p,i)∈L->i<n
theorem qV.ajG{N κ:Int}{mk:Nat->Bool}{M:Int}{L:List (Nat×Nat)}(I:qV N κ mk M L s c)(j:Nat):0<=c.bu j:=by
 unfold CM.bu;rw[qW];cases h:c.blocks[j]? with
 |none=>exact bG _
 |some x=>exact(I.has.cont.shape j x h).2.1
def Uu{α:Type}(f:Nat->α)(p:Nat)(x:α):Nat->α:=fun q=>if q=p then x else f q
theorem PlI.put{n:Nat}{is:Nat->Bool}{at_:Nat->Nat}{left:Nat}{L:List (Nat×Nat)}(I:PlI n is at_ left s c L)(hn:n<64):
  ∃p:Nat,(bn s c (rW 2 n) (br n 128)).2.2=((p:Int),0)∧p<64∧is p=false∧bE (bn s c (rW 2 n) (br n 128)).1 (bn s c (rW 2 n) (br n 128)).2.1+left+1<=64∧
   PlI (n+1) (Uu is p true) (Uu at_ p n) (left+1) (bn s c (rW 2 n) (br n 128)).1 (bn s c (rW 2 n) (br n 128)).2.1 ((p,n)::L):=by
 obtain⟨hI,aio,acZ,Uv,kJ⟩:=I;rcases hI.put (by omega) (i:=n) (by omega) (aE rfl)with⟨_,hf⟩|⟨p,e1,e2,e3,e4,e5,e6,e7,_⟩
 ·have h1:=Sd (f:=fun j=>c.bu j) (mk:=fun _=>false) 16 (fun j=>hI.ajG j) fun j hj hm=>(hf j hj hm).1;rw[Sb (fun _=>rfl)]at h1;omega
 ·generalize bn s c (rW 2 n) (br n 128)=r at*;have Oe:Go.Proofs.YtalnifciidblkaaGreatDoor.kW s p=false:=by unfold Go.Proofs.YtalnifciidblkaaGreatDoor.kW;rw[e3];rfl
  have hnL:∀i,(p,i)∉L:=fun i h=>by have:=(hI.kW e2).2 ⟨i,h⟩;rw[Oe]at this;exact absurd this (by simp)
  have aoy:is p=false:=by
   cases h:is p with
   |false=>rfl
   |true=>exact absurd ((Uv p (at_ p)).2 ⟨e2,h,rfl⟩) (hnL _)
  have e5':qV 1000000 2 (fun _=>false) (2*((n+1:Nat):Int)) ((p,n)::L) r.1 r.2.1:=by
   have e:2*((n+1:Nat):Int)=2*(n:Int)+2:=by omega
   rw[e];exact e5
  have O0:bB (Go.Proofs.YtalnifciidblkaaGreatDoor.kW r.1) 64=left+1:=by
   have:=uX (f:=Go.Proofs.YtalnifciidblkaaGreatDoor.kW s) (g:=Go.Proofs.YtalnifciidblkaaGreatDoor.kW r.1) (k:=p) 64 (fun j hj ei=>by
    rw[Bool.eq_iff_iff,e5.kW hj,hI.kW hj];constructor
    ·rintro⟨i,hi⟩;rcases List.mem_cons.1 hi with h|h
     ·injection h with h1 h2;exact absurd h1 ei
     ·exact⟨i,h⟩
    ·rintro⟨i,hi⟩;exact⟨i,fA _ hi⟩) Oe ((e5.kW e2).2 ⟨n,dC⟩)
   rw[this,if_pos e2,acZ]
  refine⟨p,e1,e2,aoy,?_,e5',?_,O0,?_,fun q i h=>by
   rcases List.mem_cons.1 h with h|h
   ·injection h with h1 h2;omega
   ·have:=kJ q i h;omega⟩
  ·have:=room_le e5.has.cont e5.has.ja.1 e5.has.ja.2.1;rw[O0]at this;omega
  ·have:=(Sc (f:=fun j=>c.bu (j:Nat)) (g:=fun j=>r.2.1.bu (j:Nat)) (k:=p/4) 16 (fun j hj=>e6 j hj) e7).1;show xX (fun j=>r.2.1.bu (j:Nat)) 16<=((n+1:Nat):Int);omega
  ·intro q i;unfold Uu;by_cases e:q=p
   ·subst e;rw[if_pos rfl,if_pos rfl];constructor
    ·intro h;rcases List.mem_cons.1 h with h|h
     ·injection h with h1 h2;exact⟨e2,rfl,h2.symm⟩
     ·exact absurd h (hnL i)
    ·rintro⟨_,_,h⟩;rw[h];exact dC
   ·rw[if_neg e,if_neg e,<-Uv q i];constructor
    ·intro h;rcases List.mem_cons.1 h with h|h
     ·injection h with h1 h2;exact absurd h1 e
     ·exact h
    ·exact fun h=>fA _ h
theorem PlI.drop{n:Nat}{is:Nat->Bool}{at_:Nat->Nat}{left:Nat}{L:List (Nat×Nat)}(I:PlI n is at_ (left+1) s c L){p:Nat}(hp:p<64)(W4:is p=true):
  (fF s p).2=0∧PlI n (Uu is p false) at_ left (fF s p).1 c (L.filter fun q=>decide (q.1≠p)):=by
 obtain⟨hI,aio,acZ,Uv,kJ⟩:=I;have oY:=(Uv p (at_ p)).2 ⟨hp,W4,rfl⟩;obtain⟨d1,d2⟩:=hI.drop oY;have ajH:Go.Proofs.YtalnifciidblkaaGreatDoor.kW (fF s p).1 p=false:=by
  cases h:Go.Proofs.YtalnifciidblkaaGreatDoor.kW (fF s p).1 p with
  |false=>rfl
  |true=>
   obtain⟨i,hi⟩:=(d2.kW hp).1 h;have:=(List.mem_filter.1 hi).2;simp at this
 have O0:=uX (f:=Go.Proofs.YtalnifciidblkaaGreatDoor.kW (fF s p).1) (g:=Go.Proofs.YtalnifciidblkaaGreatDoor.kW s) (k:=p) 64 (fun j hj ei=>by
  rw[Bool.eq_iff_iff,d2.kW hj,hI.kW hj];constructor
  ·rintro⟨i,hi⟩;exact⟨i,List.mem_filter.2 ⟨hi,by simpa using ei⟩⟩
  ·rintro⟨i,hi⟩;exact⟨i,(List.mem_filter.1 hi).1⟩) ajH ((hI.kW hp).2 ⟨_,oY⟩)
 rw[if_pos hp,acZ]at O0;refine⟨d1,d2,aio,by omega,?_,fun q i h=>kJ q i (List.mem_filter.1 h).1⟩;intro q i;unfold Uu;rw[List.mem_filter,Uv q i];by_cases e:q=p
 ·subst e;simp
 ·rw[if_neg e];simp[e]
end
section
variable{s s':SM}{c c':CM}
theorem xk{f g:Nat->Bool}(n:Nat)(h:∀j,j<n->f j=g j):bB f n=bB g n:=by
 unfold bB;rw[List.filter_congr fun j hj=>h j (List.mem_range.1 hj)]
theorem kR(hC:aV s c):(dR s c).length=bB (bq s c) s.B:=by
 unfold dR pU;rw[tw];unfold ga bB;rw[bY];have:(dV s c).length=s.B:=by unfold dV;rw[bY,fP]
 rw[this];congr 1;refine List.filter_congr fun j hj=>?_;have xF:=List.mem_range.1 hj;unfold dV;rw[jR,dW,pf (by omega)];rfl
theorem FG{a b:Bool}(h:a=true↔b=true):a=b:=by cases a<;>cases b<;>simp_all
theorem Se{N:Int}{h:Hd}{d:List UInt8}(hC:aV s c){r:SM×CM×Int×Int}{k p:Nat}{x x':CB}(hR:oJ s c d h r)(g:AG N s c d h r k p x x'):bE r.1 r.2.1=bE s c-1:=by
 have WV:=hR.cont;have hk:=g.kb;have hi:=(List.getElem?_eq_some_iff.1 g.pY).1;have qN:r.2.1.blocks[k]?=some x':=by rw[g.T7,dx _ _ _ _ hi,if_pos rfl]
 have vh:dK r.1 r.2.1=s.P-x'.next:=by rw[left_at WV g.op qN,hR.P]
 have qG:∀j:Nat,j≠k->(gR r.1 j↔gR s j):=by
  intro j hj;unfold gR;rw[hR.P,g.hs];constructor
  ·intro e q hq;have:=e q hq;rw[lg h _ g.free]at this;split at this
   ·exact absurd this (by simp)
   ·exact this
  ·intro e q hq;rw[lg h _ g.free,if_neg]
   ·exact e q hq
   ·intro e2;exact hj (key_inj hq g.pb e2).1
 have zN:bq r.1 r.2.1 k=false:=by
  cases e:bq r.1 r.2.1 k with
  |false=>rfl
  |true=>
   obtain⟨_,h2,_⟩:=(fe WV qN).1 e;have:=h2 p (by rw[hR.P];exact g.pb);rw[hR.P,g.hs,lg h _ g.free,if_pos rfl]at this;exact absurd this (by simp)
 have im:∀j:Nat,j≠k->r.1.op≠(j:Int):=fun j hj e=>hj (by have:=g.op;omega);have aip:∀j,j<s.B->j≠k->bq r.1 r.2.1 j=bq s c j:=by
  intro j hj qE;obtain⟨y,hy⟩:=hC.rY hj;have uv:r.2.1.blocks[j]?=some y:=by rw[g.T7,dx _ _ _ _ hi,if_neg (fun e=>qE e.symm)];exact hy
  refine FG ?_;rw[fe WV uv,fe hC hy,qG j qE];have h1:s.op≠(j:Int)∨dK s c=0:=by
   rcases g.Bd with⟨_,u,_⟩|⟨u,_⟩
   ·exact aQ fun e=>qE (by omega)
   ·exact aE u
  constructor
  ·intro⟨a,b,_⟩;exact⟨a,b,h1⟩
  ·intro⟨a,b,_⟩;exact⟨a,b,aQ (im j qE)⟩
 unfold bE;rw[vh,kR WV,kR hC,hR.B,hR.P];have Dr:=g.next;rcases g.Bd with⟨u1,u2,u3,_⟩|⟨u1,u2,⟨L,u3⟩,_⟩
 ·have hks:bq s c k=false:=by
   cases e:bq s c k with
   |false=>rfl
   |true=>
    obtain⟨_,_,h2⟩:=(fe hC g.pY).1 e;rcases h2 with h2|h2
    ·exact absurd u2 h2
    ·exact absurd h2 u1
  have e1:bB (bq r.1 r.2.1) s.B=bB (bq s c) s.B:=xk _ fun j hj=>by
   by_cases e:j=k
   ·rw[e,zN,hks]
   ·exact aip j hj e
  rw[e1,left_at hC u2 g.pY];omega
 ·have hks:bq s c k=true:=by
   obtain⟨j,e,_,h2⟩:=(rq hC).1 (show(k:Int)∈dR s c by rw[u3];exact dC);have:j=k:=by omega
   rw[<-this];exact h2
  have e1:=uX (f:=bq r.1 r.2.1) (g:=bq s c) (k:=k) s.B (fun j hj e=>(aip j hj e).symm) zN hks;rw[if_pos hk]at e1;rw[e1,u1];generalize bB (bq r.1 r.2.1) s.B=E;have:(s.P:Int)*((E+1:Nat):Int)=s.P*(E:Int)+s.P:=by rw[Int.natCast_add,Int.mul_add];simp
  rw[this];omega
def uL(s:SM)(c:CM)(j:Nat):Bool:=!c.eZ j&&decide ((iE s (j:Int)).length=0)
theorem C9(hC:aV s c){k:Nat}{x:CB}(hx:c.blocks[k]?=some x):uL s c k=true↔x.mark=false∧gR s k:=by
 have hk:k<s.B:=by rw[<-hC.B];exact(List.getElem?_eq_some_iff.1 hx).1
 unfold uL;rw[AF hx];have e:(iE s (k:Int)).length=0↔gR s k:=by
  rw[<-hC.rp hk];unfold iE;rw[bY];exact List.length_eq_zero_iff
 rw[fW,decide_eq_true_eq,e];simp
theorem Wl(hC:aV s c):(s.P:Int)*(bB (uL s c) s.B:Int)-s.P<=bE s c:=by
 have key:∀n:Nat,n<=s.B->(bB (uL s c) n:Int)<=bB (bq s c) n+(if s.op<n then 1 else 0):=by
  intro n
  induction n with
  |zero=>intro _;show((0:Nat):Int)<=_;have:bB (bq s c) 0=0:=rfl;split<;>omega
  |succ n ih=>
   intro hn;have IH:=ih (by omega);rw[ef,ef];obtain⟨x,hx⟩:=hC.rY (k:=n) (by omega);cases hf:uL s c n with
   |false=>
    rw[if_neg (by simp)];split at IH<;>split<;>split<;>omega
   |true=>
    rw[if_pos rfl];obtain⟨h1,h2⟩:=(C9 hC hx).1 hf;by_cases ho:s.op=(n:Int)
    ·rw[if_neg (by omega)]at IH;rw[if_pos (show s.op<((n+1:Nat):Int) by omega)];split<;>omega
    ·have:bq s c n=true:=(fe hC hx).2 ⟨h1,h2,aQ ho⟩;rw[if_pos this];split at IH<;>split<;>omega
 have K:=key s.B (aN _);rw[if_pos hC.Bc.2]at K;unfold bE;rw[kR hC];have hl:0<=dK s c:=by
  unfold dK;split
  ·omega
  ·obtain⟨k,hk⟩:∃k:Nat,s.op=(k:Int):=⟨s.op.toNat,by have:=hC.Bc;omega⟩;obtain⟨x,hx⟩:=hC.rY (k:=k) (by have:=hC.Bc;omega);rw[hk,mL hx];have:=(hC.shape k x hx).2.2.1;omega
 generalize bB (uL s c) s.B=A at*;generalize bB (bq s c) s.B=E at*;have h2:(s.P:Int)*(A:Int)<=s.P*((E:Int)+1):=Int.mul_le_mul_of_nonneg_left K (by omega);rw[Int.mul_add]at h2;omega
theorem Sf(hC:aV s c):0<=dK s c:=by
 unfold dK;split
 ·omega
 ·obtain⟨k,hk⟩:∃k:Nat,s.op=(k:Int):=⟨s.op.toNat,by have:=hC.Bc;omega⟩;obtain⟨x,hx⟩:=hC.rY (k:=k) (by have:=hC.Bc;omega);rw[hk,mL hx];have:=(hC.shape k x hx).2.2.1;omega
structure eD(c:CM):Prop where
 nf:∀(k:Nat) (x:CB),c.blocks[k]?=some x->x.failed=false
 um:∀(k:Nat) (x:CB),c.blocks[k]?=some x->x.mark=false
 ms:c.ms=[]
theorem eD.reads(q:eD c)(r:Reads c c'):eD c':=⟨fun k x h=>q.nf k x (by rw[<-r.blocks];exact h),fun k x h=>q.um k x (by rw[<-r.blocks];exact h),r.ms.trans q.ms⟩
def ZX(s:SM)(j:Nat):Bool:=(List.range s.P).all fun p=>!kW s (j*s.P+p)
theorem ts{j:Nat}:ZX s j=true↔gR s j:=by
 unfold ZX gR;rw[List.all_eq_true];constructor
 ·intro h p hp;have:=h p (List.mem_range.2 hp);unfold kW at this;rw[Int.natCast_add,Int.natCast_mul]at this;cases e:aq s.hs ((j:Int)*s.P+p)with
  |none=>rfl
  |some x=>rw[e]at this;simp at this
 ·intro h p hp;have:=h p (List.mem_range.1 hp);unfold kW;rw[Int.natCast_add,Int.natCast_mul,this];rfl
def et(s:SM):Nat:=bB (ZX s) s.B
theorem rA{f g:Nat->Bool}(n:Nat)(h:∀j,j<n->f j=true->g j=true):bB f n<=bB g n:=by
 induction n with
 |zero=>exact aN _
 |succ n ih=>
  have:=ih fun j hj=>h j (by omega);rw[ef,ef];cases e:f n with
  |true=>rw[h n (by omega) e];simp;omega
  |false=>simp only[Bool.false_eq_true,if_false];split<;>omega
theorem Sg{f g:Nat->Bool}{k:Nat}(n:Nat)(h:∀j,j<n->j≠k->f j=true->g j=true):bB f n<=bB g n+1∧(n<=k->bB f n<=bB g n):=by
 induction n with
 |zero=>exact⟨Nat.zero_le _,fun _=>aN _⟩
 |succ n ih=>
  obtain⟨h1,h2⟩:=ih fun j hj=>h j (by omega);rw[ef,ef];by_cases e:n=k
  ·have:=h2 (by omega);refine⟨?_,fun h=>by omega⟩;split<;>split<;>omega
  ·cases e2:f n with
   |true=>
    rw[h n (by omega) e e2];refine⟨by simp;omega,fun h=>by have:=h2 (by omega);simp;omega⟩
   |false=>
    simp only[Bool.false_eq_true,if_false];refine⟨by split<;>omega,fun h=>by have:=h2 (by omega);split<;>omega⟩
theorem Sh{f:Nat->Bool}{n:Nat}(h:0<bB f n):∃j,j<n∧f j=true:=by
 refine Classical.byContradiction fun hc=>?_;have:=C8 f n fun j hj=>by
  cases e:f j with
  |false=>rfl
  |true=>exact absurd ⟨j,hj,e⟩ hc
 omega
theorem zl{h:Hd}{d:List UInt8}(hC:aV s c)(hL:Live s c)(q:eD c)(hm:h.may=true)(hi:zW h)(hd:d.length=s.Z)(hr:1<=bE s c):
  (bn s c h d).2.2.2=0∧eD (bn s c h d).2.1∧bE (bn s c h d).1 (bn s c h d).2.1=bE s c-1∧et s<=et (bn s c h d).1+1:=by
 obtain⟨hR,hw⟩:=Cg (N:=c.ops+2) hC hL ⟨by rw[q.ms];simp,q.nf⟩ (bG _) hm hi hd;rcases hw with⟨_,e1,e2⟩|⟨k,p,x,x',g⟩
 ·unfold bE at hr;rw[e1,e2]at hr;simp at hr
 ·refine⟨by rw[g.code],⟨g.calm.ok,fun j y hy=>?_,hR.ms.trans q.ms⟩,Se hC hR g,?_⟩
  ·rw[g.T7,dx _ _ _ _ (List.getElem?_eq_some_iff.1 g.pY).1]at hy;split at hy
   ·injection hy with hy;rw[<-hy];exact g.mark.2
   ·exact q.um j y hy
  ·unfold et;rw[hR.B];refine(Sg (k:=k) s.B fun j _ hj hf=>?_).1;rw[ts]at hf⊢;intro p' hp';rw[hR.P]at hp'⊢;rw[g.hs,lg h _ g.free,if_neg]
   ·exact hf p' hp'
   ·intro e2;exact hj (key_inj hp' g.pb e2).1
theorem Wm(s:SM)(n:Int):(fF s n).1.op=s.op:=by
 unfold fF;split
 ·rfl
 ·rfl
theorem Si(L:List Nat):∀s:SM,(dI s L).op=s.op:=by
 induction L with
 |nil=>intro s;rfl
 |cons n L ih=>intro s;rw[zz,ih,Wm]
theorem Sj(hC:aV s c)(WV:aV s' c)(hB:s'.B=s.B)(hP:s'.P=s.P)(ho:s'.op=s.op)(hl:∀n,aq s.hs n=none->aq s'.hs n=none):bE s c<=bE s' c∧et s<=et s':=by
 have hn:∀j,gR s j->gR s' j:=fun j h p hp=>by rw[hP]at hp⊢;exact hl _ (h p hp)
 have hlf:dK s' c=dK s c:=by unfold dK;rw[ho,hP]
 constructor
 ·unfold bE;rw[kR hC,kR WV,hlf,hB,hP];have:=rA (f:=bq s c) (g:=bq s' c) s.B fun j hj h=>by
   obtain⟨x,hx⟩:=hC.rY hj;obtain⟨a,b,d⟩:=(fe hC hx).1 h;exact(fe WV hx).2 ⟨a,hn j b,by rw[ho,hlf];exact d⟩
  have:=Int.mul_le_mul_of_nonneg_left (show(bB (bq s c) s.B:Int)<=bB (bq s' c) s.B by omega) (show(0:Int)<=s.P by omega);omega
 ·unfold et;rw[hB];exact rA s.B fun j _ h=>ts.2 (hn j (ts.1 h))
theorem Sk{t:SM}(hB:t.B=s.B)(hP:t.P=s.P)(hl:∀n:Nat,kW t n=true->kW s n=true):et s<=et t:=by
 unfold et;rw[hB];refine rA s.B fun j _ h=>?_;unfold ZX at h⊢;rw[List.all_eq_true]at h⊢;intro p hp;rw[hP]at hp⊢;have:=h p hp;cases e:kW t (j*s.P+p)with
 |false=>rfl
 |true=>rw[hl _ e]at this;exact absurd this (by simp)
theorem Ks(hC:aV s c)(q:eD c)(h:1<=et s):1<=bE s c:=by
 obtain⟨j,hj,hf⟩:=Sh (show 0<et s from h);have hn:=ts.1 hf;obtain⟨x,hx⟩:=hC.rY hj;have h0:=Sf hC;have ik:=bO hC.pl;unfold bE;rw[kR hC];by_cases e:s.op≠(j:Int)∨dK s c=0
 ·have hc:bq s c j=true:=(fe hC hx).2 ⟨q.um j x hx,hn,e⟩;have:0<bB (bq s c) s.B:=by
   rcases nG (bB (bq s c) s.B)with h0|h0
   ·exfalso;unfold bB at h0;have:=jW h0;have hm:j∈(List.range s.B).filter (bq s c):=List.mem_filter.2 ⟨List.mem_range.2 hj,hc⟩;rw[this]at hm;exact absurd hm (by simp)
   ·exact h0
  have:=Int.mul_le_mul_of_nonneg_left (show(1:Int)<=bB (bq s c) s.B by omega) (show(0:Int)<=s.P by omega);omega
 ·have h1:dK s c≠0:=fun h=>e (aE h);have:=Int.mul_nonneg (show(0:Int)<=s.P by omega) (show(0:Int)<=bB (bq s c) s.B by omega);omega
theorem Sl(hC:aV s c):bE s c<=s.P*(et s:Int)+s.P:=by
 have h1:bB (bq s c) s.B<=et s:=rA s.B fun j hj h=>by
  obtain⟨x,hx⟩:=hC.rY hj;exact ts.2 ((fe hC hx).1 h).2.1
 have h2:dK s c<=s.P:=by
  unfold dK;split
  ·omega
  ·obtain⟨k,hk⟩:∃k:Nat,s.op=(k:Int):=⟨s.op.toNat,by have:=hC.Bc;omega⟩;obtain⟨x,hx⟩:=hC.rY (k:=k) (by have:=hC.Bc;omega);rw[hk,mL hx];have:=(hC.shape k x hx).2.1;omega
 unfold bE;rw[kR hC];have:=Int.mul_le_mul_of_nonneg_left (show(bB (bq s c) s.B:Int)<=et s by omega) (show(0:Int)<=s.P by omega);omega
theorem Sm(hC:aV s c)(q:eD c):(s.P:Int)*(et s:Int)-s.P<=bE s c:=by
 have:=Wl hC;rwa[show bB (uL s c) s.B=et s from xk _ fun j hj=>by
  obtain⟨x,hx⟩:=hC.rY hj;refine FG ?_;rw[C9 hC hx,ts];exact⟨fun h=>h.2,fun h=>⟨q.um j x hx,h⟩⟩]at this
theorem Kt(hB:s.B=16)(hP:s.P=4):16<=et s+bB (kW s) 64:=by
 have:∀k,k<=16->k<=bB (ZX s) k+bB (kW s) (k*4):=by
  intro k
  induction k with
  |zero=>intro _;omega
  |succ k ih=>
   intro hk;have:=ih (by omega);rw[ef,FF];cases e:ZX s k with
   |true=>simp only[if_true];omega
   |false=>
    have:0<bB (fun p=>kW s (k*4+p)) 4:=by
     refine Classical.byContradiction fun hc=>?_;have h0:bB (fun p=>kW s (k*4+p)) 4=0:=by omega
     have:ZX s k=true:=by
      unfold ZX;rw[List.all_eq_true];intro p hp;rw[hP]at hp⊢;cases e2:kW s (k*4+p)with
      |false=>rfl
      |true=>
       exfalso;unfold bB at h0;have h1:=jW h0;have hm:p∈(List.range 4).filter fun p=>kW s (k*4+p):=List.mem_filter.2 ⟨hp,e2⟩;rw[h1]at hm;exact absurd hm (by simp)
     rw[this]at e;exact absurd e (by simp)
    simp only[Bool.false_eq_true,if_false];omega
 have h:=this 16 (aN _);unfold et;rw[hB];exact h
end
end Go.Proofs.YtalnifciidblkaaGreatDoor
