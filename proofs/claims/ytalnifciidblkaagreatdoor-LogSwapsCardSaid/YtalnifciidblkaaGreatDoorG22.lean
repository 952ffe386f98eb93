/-
  Lemmas.
-/
import Derived.Test.YtalnifciidblkaaGreatDoorG18
import Derived.Test.YtalnifciidblkaaGreatDoorG27
namespace Go.Proofs.YtalnifciidblkaaGreatDoor
open Go.RowKit
set_option linter.unusedSimpArgs false
set_option linter.unusedVariables false
set_option maxRecDepth 100000
section
variable{s s':SM}{c c':CM}{l:LM}{T T0:List az}
theorem O1{Z:Nat}:∀(eA:List (List Nt)) (l:LM) (s:SM) (c:CM),aV s c->Live s c->eD c->s.Z=Z->(∀ch∈eA,(NP.mk 0 0 ch).ok Z)->0<=l.last->l.last+eA.length<=1099511627775->0<=l.gen->l.gen<=16777215->(eA.length:Int)<=bE s c->
  (jI Z eA l s c).2.2.2=0∧eD (jI Z eA l s c).2.2.1∧bE (jI Z eA l s c).2.1 (jI Z eA l s c).2.2.1=bE s c-eA.length∧et s<=et (jI Z eA l s c).2.1+eA.length
 |[],l,s,c,_,_,q,_,_,_,_,_,_,_=>⟨rfl,q,by show bE s c=bE s c-((0:Nat):Int);omega,aN _⟩
 |ch::eA,l,s,c,hC,hL,q,hZ,cj,h0,h1,h2,h3,hr=>by
  have bm:(ch::eA).length=eA.length+1:=rfl;rw[bm]at h1 hr⊢;have cz:=cj ch dC;obtain⟨m1,m2⟩:=oP (q:=l.last+1) (g:=l.gen) (by omega) (by omega) h2 h3;have hd:(eX ch Z).length=s.Z:=by rw[hZ];exact nY cz.2.2.1
  have Q:=xU (d:=eX ch Z) hC hL m1 m2 hd;obtain⟨p1,p2,p3,p4⟩:=zl (d:=eX ch Z) hC hL q m1 m2 hd (by omega);rw[jI];generalize bn s c (gA (l.last+1) l.gen) (eX ch Z)=r at*;rw[if_neg (by omega)];rcases Q.Bd with⟨_,w2,_⟩|⟨w1,_⟩|⟨w1,_⟩
  ·obtain⟨i1,i2,i3,i4⟩:=O1 eA {l with last:=l.last+1,ad:=l.ad++[r.2.2.1.toNat],T:=aI l.T ch} r.1 r.2.1 Q.cont w2 p2 (Q.Z.trans hZ) (fun x hx=>cj x (fA _ hx)) (by show 0<=l.last+1;omega) (by show l.last+1+(eA.length:Int)<=_;omega) h2 h3 (by omega);exact⟨i1,i2,by rw[i3,p3];omega,by omega⟩
  ·omega
  ·omega
theorem Pv:∀(bs:List (List UInt8)) (l:LM) (s:SM) (c:CM) (put:List Nat),aV s c->Live s c->eD c->(∀b∈bs,b.length=s.Z)->0<=l.last->l.last+bs.length<=1099511627775->0<=l.aj->l.aj<=16777215->(bs.length:Int)<=bE s c->
  (jg bs l s c put).2.2.2.2=0∧eD (jg bs l s c put).2.2.1∧bE (jg bs l s c put).2.1 (jg bs l s c put).2.2.1=bE s c-bs.length∧et s<=et (jg bs l s c put).2.1+bs.length
 |[],l,s,c,put,_,_,q,_,_,_,_,_,_=>⟨rfl,q,by show bE s c=bE s c-((0:Nat):Int);omega,aN _⟩
 |b::bs,l,s,c,put,hC,hL,q,hb,h0,h1,h2,h3,hr=>by
  have bm:(b::bs).length=bs.length+1:=rfl;rw[bm]at h1 hr⊢;obtain⟨m1,m2⟩:=mz (q:=l.last+1) (g:=l.aj) (by omega) (by omega) h2 h3;have Q:=xU (d:=b) hC hL m1 m2 (hb b dC);obtain⟨p1,p2,p3,p4⟩:=zl (d:=b) hC hL q m1 m2 (hb b dC) (by omega);rw[jg];generalize bn s c (fh (l.last+1) l.aj) b=r at*;rw[if_neg (by omega)];rcases Q.Bd with⟨_,w2,_⟩|⟨w1,_⟩|⟨w1,_⟩
  ·obtain⟨i1,i2,i3,i4⟩:=Pv bs {l with last:=l.last+1} r.1 r.2.1 (put++[r.2.2.1.toNat]) Q.cont w2 p2 (fun x hx=>by rw[Q.Z];exact hb x (fA _ hx)) (by show 0<=l.last+1;omega) (by show l.last+1+(bs.length:Int)<=_;omega) h2 h3 (by omega);exact⟨i1,i2,by rw[i3,p3];omega,by omega⟩
  ·omega
  ·omega
structure sE(s:SM)(D:List Nat):Prop where
 nd:D.Nodup
 has:∀n∈D,∃h,aq s.hs (n:Int)=some h∧h.k≠3∧h.k≠4
 only:∀(n:Nat) h,aq s.hs (n:Int)=some h->h.k=3∨h.k=4∨n∈D
theorem sE.eq{D:List Nat}(h:sE s D)(d:mc s c s' c'):sE s' D:=by
 refine⟨h.nd,fun n hn=>?_,fun n x hx=>?_⟩
 ·obtain⟨x,h1,h2,h3⟩:=h.has n hn;exact⟨x,(d.fw n x h1 h2 h3).1,h2,h3⟩
 ·by_cases h3:x.k=3
  ·exact aQ h3
  ·by_cases h4:x.k=4
   ·exact aE (aQ h4)
   ·exact h.only n x (d.bw n x hx h3 h4)
section
variable{nm:List UInt8}{N:Int}
theorem gy.count(S:gy nm N l s c){D:List Nat}(h:sE s D):bB (kW s) 64=l.ad.length+D.length:=by
 obtain⟨es,bK,nps,q0,I⟩:=S.inv;have vf:(l.ad++D).Nodup:=by
  rw[List.nodup_append];refine⟨I.sin.nd,h.nd,fun a ha b hb e=>?_⟩;subst e;obtain⟨x,h1,h2⟩:=I.sin.has a ha;obtain⟨y,h3,h4,h5⟩:=h.has a hb;rw[h1]at h3;injection h3 with h3;subst h3;omega
 have qG:((List.range 64).filter (kW s)).Nodup:=List.nodup_range.filter _;have aG:∀n h,aq s.hs ((n:Nat):Int)=some h->n<64:=fun n h hl=>by
  obtain⟨m,e,hm,_⟩:=I.sin.cont.has hl;have:=S.F5;omega
 have h1:=kD _ (l.ad++D) qG fun n hn=>by
  obtain⟨_,h2⟩:=List.mem_filter.1 hn;unfold kW at h2;obtain⟨x,hx⟩:=Option.isSome_iff_exists.1 h2;rcases h.only n x hx with h3|h3|h3
  ·obtain⟨m,hm,e⟩:=I.sin.Av n x hx (aQ h3);obtain rfl:n=m:=by omega
   exact ib _ hm
  ·obtain⟨m,hm,e⟩:=I.sin.Av n x hx (aE h3);obtain rfl:n=m:=by omega
   exact ib _ hm
  ·exact gr _ h3
 have h2:=kD (l.ad++D) ((List.range 64).filter (kW s)) vf fun n hn=>by
  rcases List.mem_append.1 hn with hn|hn
  ·obtain⟨x,hx,_⟩:=I.sin.has n hn;exact List.mem_filter.2 ⟨List.mem_range.2 (aG n x hx),by unfold kW;rw[hx];rfl⟩
  ·obtain⟨x,hx,_⟩:=h.has n hn;exact List.mem_filter.2 ⟨List.mem_range.2 (aG n x hx),by unfold kW;rw[hx];rfl⟩
 rw[aY]at h1 h2;unfold bB;omega
theorem gy.Ku(S:gy nm N l s c)(q:eD c)(hN:N<=1000000){ns:List Nt}(hlen:ns.length<=1000)(iu:∀n∈ns,n.vg∧n.ok=true)(hp:∀j,j<=ns.length->dd (aI l.T (ns.take j))∧pP s (aI l.T (ns.take j)))(hr:((aO 128 ns).length:Int)<=bE s c):
  let r:=jI s.Z (aO s.Z ns) l s c
  r.2.2.2=0∧gy nm (N+ns.length) r.1 r.2.1 r.2.2.1∧eD r.2.2.1∧r.1.T=aI l.T ns∧r.1.ad.length=l.ad.length+(aO 128 ns).length∧r.1.gen=l.gen∧bE r.2.1 r.2.2.1=bE s c-(aO 128 ns).length∧et s<=et r.2.1+(aO 128 ns).length∧mc s c r.2.1 r.2.2.1:=by
 intro r;obtain⟨h1,h2⟩:=S.ym hN hlen iu hp;obtain⟨es,bK,nps,q0,I⟩:=S.inv;have hZ:=S.ja.2.2;have hl:=S.last;have ht:=S.aj;have C:=I.kX;have h0:=C.l0;have jD:=C.g0;have DL:=C.gt;obtain⟨f1,f2⟩:=fN (Z:=s.Z) (by omega) ns.length ns (aN _);have cj:=mF (Z:=s.Z) (by omega) ns.length ns (aN _) hlen iu;obtain⟨q1,q2,q3,q4⟩:=O1 (aO s.Z ns) l s c I.sin.cont I.live q rfl cj h0 (by omega) jD (by omega) (by rw[hZ];exact hr);have hd:=(wP (aO s.Z ns) l s c nps I cj (fun k hk=>by
  obtain⟨j,hj,e⟩:=FD (aO s.Z ns) k;rw[f1]at hj e;rw[e];obtain⟨g1,g2⟩:=hp j hj;exact⟨g1,tG g1 (g2.ZU I.sin.cont S.F5)⟩) (by omega) (by omega)).1
 have hr:jI s.Z (aO s.Z ns) l s c=r:=rfl;rw[hr]at h1 h2 q1 q2 q3 q4 hd
 clear_value r
 rw[hZ]at q3 q4;rcases h2 with⟨_,a2,a3,a4,a5⟩|⟨a1,_⟩|⟨a1,_⟩
 ·exact⟨q1,a2,q2,a3,a4,a5,q3,q4,hd⟩
 ·omega
 ·omega
theorem gy.Pw(S:gy nm N l s c)(q:eD c)(hN:N<=1000000)(hr:(aM 128 l.T.length:Int)<=bE s c):
  (aH l s c).2.2.2=0∧gy nm (N+30) (aH l s c).1 (aH l s c).2.1 (aH l s c).2.2.1∧eD (aH l s c).2.2.1∧(aH l s c).1.T=l.T∧l.gen<(aH l s c).1.gen∧(aH l s c).1.ad.length=aM 128 l.T.length∧
   bE s c-aM 128 l.T.length<=bE (aH l s c).2.1 (aH l s c).2.2.1∧et s<=et (aH l s c).2.1+aM 128 l.T.length∧mc s c (aH l s c).2.1 (aH l s c).2.2.1:=by
 obtain⟨hT,LQ,h2⟩:=S.check hN;obtain⟨es,bK,nps,q0,I⟩:=S.inv;have hZ:=S.ja.2.2;have hl:=S.last;have ht:=S.aj;have C:=I.kX;have h0:=C.l0;have jD:=C.g0;have DL:=C.gt;have hpz:=qD (Z:=s.Z) (by omega) I.len;have hd:=(zB I (by omega) (by omega)).1;have avg:aM 128 l.T.length<20:=by rw[<-hZ];exact hpz
 have hlen:(lV s.Z l.name l.T).length=aM 128 l.T.length:=by unfold lV;rw[bY,fP,hZ]
 have hR:=uT (l:={l with aj:=l.aj+1}) (s:=s) (c:=c) (put:=[]) (bs:=lV s.Z l.name l.T) (T:=l.T) (g1:=l.aj+1) (q1:=l.last+1) I.pg I.Iz.symm (by omega) (by have:=C.l0;omega) (by omega) rfl
  (SO.start C I.lA I.len) (by rw[kZ];exact I.sin) I.live (by simp) rfl
 obtain⟨q1,q2,q3,q4⟩:=Pv (lV s.Z l.name l.T) {l with aj:=l.aj+1} s c [] I.sin.cont I.live q (fun b hb=>by
  unfold lV at hb;obtain⟨i,_,rfl⟩:=List.mem_map.1 hb;exact lh (by omega) (by omega) C.low l.T _) h0 (by rw[hlen];show l.last+_<=_;omega) (by show 0<=l.aj+1;omega) (by show l.aj+1<=_;omega) (by rw[hlen];exact hr)
 rw[hlen]at q3 q4;have XW:(aH l s c).2.2.2=0∧eD (aH l s c).2.2.1∧bE s c-aM 128 l.T.length<=bE (aH l s c).2.1 (aH l s c).2.2.1∧et s<=et (aH l s c).2.1+aM 128 l.T.length:=by
  unfold aH;generalize jg (lV s.Z l.name l.T) {l with aj:=l.aj+1} s c []=r at*;unfold uh;have w1:¬(r.2.2.2.2≠0):=by omega
  rw[if_neg w1];obtain⟨_,_,_,_,_,_,_,e7⟩:=hR;rcases e7 with⟨_,⟨f2,fL⟩,_,_⟩|⟨f1,_⟩|⟨f1,_⟩
  ·have D:=yh (c:=r.2.2.1) l.ad r.2.1 f2.cont (List.nodup_append.1 f2.nd).1 fun n hn=>by
    obtain⟨h,e,_⟩:=f2.has n (ib _ hn);rw[e];rfl
   obtain⟨g1,g2⟩:=Sj f2.cont D.cont D.B D.P (Si _ _) fun n hn=>by
    by_cases e:∃m∈l.ad,n=(m:Nat)
    ·exact D.gone n e
    ·rw[D.stay n e];exact hn
   exact⟨rfl,q2,by show _<=bE (dI r.2.1 l.ad) r.2.2.1;omega,by show _<=et (dI r.2.1 l.ad)+_;omega⟩
  ·omega
  ·omega
 obtain⟨k1,k2,k3,k4⟩:=XW;rcases h2 with⟨_,a2,a3,a4⟩|⟨a1,_⟩|⟨a1,_⟩
 ·exact⟨k1,a2,k2,hT,a3,a4,k3,k4,hd⟩
 ·omega
 ·omega
theorem gy.zl(S:gy nm N l s c)(q:eD c)(hN:N<=1000000){a:Int}{d:List UInt8}(ha:0<=a∧a<18446744073709551616)(hd:d.length=128)(hr:1<=bE s c){D:List Nat}(hD:sE s D):
  let r:=bn s c ⟨1,a,l.last+1,0⟩ d
  r.2.2.2=0∧gy nm (N+1) {l with last:=l.last+1} r.1 r.2.1∧eD r.2.1∧bE r.1 r.2.1=bE s c-1∧et s<=et r.1+1∧∃p:Nat,r.2.2.1=p∧p<64∧aq r.1.hs (p:Int)=some ⟨1,a,l.last+1,0⟩∧(∀e∈l.T,e.aW≠(p:Int))∧sE r.1 (D++[p]):=by
 intro r;obtain⟨_,h2⟩:=S.put hN ha hd;obtain⟨es,bK,nps,q0,I⟩:=S.inv;have hZ:=S.ja.2.2;have hl:=S.last;have ht:=S.aj;have C:=I.kX;have DF:=C.l0;have hm:(⟨1,a,l.last+1,0⟩:Hd).may=true:=by
  unfold Hd.may;simp;omega
 have Q:=xU (d:=d) I.sin.cont I.live hm ⟨ha.1,ha.2⟩ (by rw[hd,hZ]);obtain⟨p1,p2,p3,p4⟩:=Go.Proofs.YtalnifciidblkaaGreatDoor.zl (d:=d) I.sin.cont I.live q hm ⟨ha.1,ha.2⟩ (by rw[hd,hZ]) hr;have hr:bn s c ⟨1,a,l.last+1,0⟩ d=r:=rfl;rw[hr]at h2 Q p1 p2 p3 p4
 clear_value r
 rcases h2 with⟨_,a2,p,a3,a4,a5,a6⟩|⟨a1,_⟩|⟨a1,_⟩
 ·refine⟨p1,a2,p2,p3,p4,p,a3,a4,a5,a6,?_⟩;rcases Q.Bd with⟨_,_,n,_,w4,w5,w6,_⟩|⟨w1,_⟩|⟨w1,_⟩
  ·obtain rfl:n=p:=by omega
   have ei:∀m:Int,∀h,aq s.hs m=some h->m≠n:=fun m h hm e=>by rw[e,w5]at hm;exact absurd hm (by simp)
   refine⟨?_,fun m hm=>?_,fun m h hx=>?_⟩
   ·rw[List.nodup_append];refine⟨hD.nd,by simp,fun x hx y hy e=>?_⟩;rw[List.mem_singleton.1 hy]at e;obtain⟨h,h1,_⟩:=hD.has x hx;exact ei _ h h1 (by rw[e])
   ·rcases List.mem_append.1 hm with hm|hm
    ·obtain⟨h,h1,h3⟩:=hD.has m hm;exact⟨h,by rw[w6,if_neg (ei _ h h1)];exact h1,h3⟩
    ·rw[List.mem_singleton.1 hm];exact⟨_,a5,by show(1:Int)≠3;decide,by show(1:Int)≠4;decide⟩
   ·rw[w6]at hx;split at hx
    ·next e=>exact aE (aE (gr _ (by simp;omega)))
    ·rcases hD.only m h hx with h1|h1|h1
     ·exact aQ h1
     ·exact aE (aQ h1)
     ·exact aE (aE (ib _ h1))
  ·omega
  ·omega
 ·omega
 ·omega
theorem Jv.more{l':LM}(S:gy nm N l s c)(S':gy nm N l' s' c')(h:Jv l' s')(hp:l'.ad=l.ad)(hT:l'.T=l.T):et s<=et s':=by
 obtain⟨es,bK,nps,q0,I⟩:=S.inv;refine Sk (S'.ja.1.trans S.ja.1.symm) (S'.ja.2.1.trans S.ja.2.1.symm) fun n hn=>?_;unfold kW at hn⊢;obtain⟨x,hx⟩:=Option.isSome_iff_exists.1 hn;rcases h n x hx with h1|⟨_,e,he,h1⟩
 ·rw[hp]at h1;obtain⟨y,hy,_⟩:=I.sin.has n h1;rw[hy];rfl
 ·rw[hT]at he;obtain⟨p,y,h2,h3,_⟩:=S.F4 e he;obtain rfl:n=p:=by omega
  rw[h3];rfl
theorem Jv.F4{l':LM}(S':gy nm N l' s' c')(h:Jv l' s'):∃D,sE s' D∧D.length=l'.T.length:=by
 obtain⟨es,bK,nps,q0,I⟩:=S'.inv;refine⟨l'.T.map fun e=>e.aW.toNat,⟨?_,fun n hn=>?_,fun n x hx=>?_⟩,by rw[bY]⟩
 ·rw[vL,rK,BM];intro i j hi hj rF e;obtain⟨_,h2⟩:=I.lA.2 i j hi hj rF;obtain⟨_,⟨a1,_⟩,_⟩:=I.lA.1 _ (cX hi);obtain⟨_,⟨b1,_⟩,_⟩:=I.lA.1 _ (cX hj);omega
 ·obtain⟨e,he,rfl⟩:=List.mem_map.1 hn;obtain⟨p,y,h2,h3,h4⟩:=S'.F4 e he;have:e.aW.toNat=p:=by omega
  rw[this];exact⟨y,h3,h4⟩
 ·rcases h n x hx with h1|⟨_,e,he,h1⟩
  ·obtain⟨y,hy,hk⟩:=I.sin.has n h1;rw[hx]at hy;injection hy with hy;subst hy;rcases hk with hk|hk
   ·exact aQ hk
   ·exact aE (aQ hk)
  ·exact aE (aE (List.mem_map.2 ⟨e,he,by omega⟩))
end
end
section
variable{s s':SM}{c c':CM}{l:LM}{T T0:List az}{nm:List UInt8}{N:Int}
theorem mA(marks:List Int)(ms:List Mi):lH ((CM.new 16 4 128 marks ms).blocks.length:Int) (CM.new 16 4 128 marks ms).P (CM.new 16 4 128 marks ms).Z=true:=by
 have e:(CM.new 16 4 128 marks ms).blocks.length=(CM.new 16 4 128 [] []).blocks.length:=by simp[CM.new]
 rw[e];exact Kq
theorem nB(marks:List Int)(ms:List Mi)(n:Nat):(CM.new 16 4 128 marks ms).vN n=none:=by
 unfold CM.vN;cases hb:(CM.new 16 4 128 marks ms).blocks[n/(CM.new 16 4 128 marks ms).P]? with
 |none=>exact J5 hb _
 |some x=>
  rw[j8 hb];obtain⟨_,rfl⟩:=B6 hb;exact GJ 4 156 255 _ rfl (by omega) _
theorem yQ:eD (CM.new 16 4 128 [] []):=⟨fun k x h=>by rw[Vo h];rfl,fun k x h=>by rw[Vo h];rfl,rfl⟩
theorem Px:(bW (CM.new 16 4 128 [] [])).1=Jc:=by have:=awN;show(bW Jb).1=Jc;rw[this]
theorem AQ:bE Jc Jb=64:=by kernel_rfl
theorem Da(e1:bc s=[])(e2:kN s=⟨[],0,0,0,[],[]⟩)(hZ:s.Z=128)(h:(bn s c (fh 1 1) (cW 128 nm [] 0)).2.2.2=0):
  aL nm s c=(⟨nm,1,1,1,[(bn s c (fh 1 1) (cW 128 nm [] 0)).2.2.1.toNat],[]⟩,(bn s c (fh 1 1) (cW 128 nm [] 0)).1,(bn s c (fh 1 1) (cW 128 nm [] 0)).2.1,0):=by
 unfold aL;rw[e1,e2];have e3:dI s []=s:=rfl;rw[e3];have e4:lV s.Z nm []=[cW 128 nm [] 0]:=by rw[hZ];rfl
 unfold aH;dsimp only;rw[e4,jg];dsimp only;rw[show(0:Int)+1=1 from rfl];generalize bn s c (fh 1 1) (cW 128 nm [] 0)=r at*;unfold uh;have w1:¬(r.2.2.2≠0):=by omega
 rw[if_neg w1,jg];dsimp only;rw[if_neg (show¬((0:Int)≠0) by omega)];rfl
theorem Cu(hn:yZ nm)(hC:aV s c)(hL:Live s c)(q:eD c)(hg:s.B=16∧s.P=4∧s.Z=128)(hm:c.bZ=0)(h0:∀n:Nat,n<64->c.vN n=none)(hr:1<=bE s c):
  (aL nm s c).2.2.2=0∧gy nm 1 (aL nm s c).1 (aL nm s c).2.1 (aL nm s c).2.2.1∧eD (aL nm s c).2.2.1∧(aL nm s c).1.T=[]∧(aL nm s c).1.ad.length=1∧(aL nm s c).1.gen=1∧(aL nm s c).1.last=1∧
   bE (aL nm s c).2.1 (aL nm s c).2.2.1=bE s c-1∧et s<=et (aL nm s c).2.1+1∧sE (aL nm s c).2.1 []∧(aL nm s c).2.2.1.ops<=c.ops+2400:=by
 obtain⟨b1,b2,b3,b4,b5,b6⟩:=fO hn hC hL hg hm h0;obtain⟨m1,m2⟩:=mz (q:=1) (g:=1) (by omega) (by omega) (by omega) (by omega);have hd:(cW 128 nm [] 0).length=s.Z:=by rw[hg.2.2];exact lh (by omega) (by omega) hn [] _
 have Q:=xU (d:=cW 128 nm [] 0) hC hL m1 m2 hd;obtain⟨p1,p2,p3,p4⟩:=zl (d:=cW 128 nm [] 0) hC hL q m1 m2 hd hr;have e:=Da (nm:=nm) (c:=c) b1 b2 hg.2.2 p1;rw[e]at b3 b4 b5 b6⊢;generalize bn s c (fh 1 1) (cW 128 nm [] 0)=r at*;rcases b6 with⟨_,a2,a3,a4,a5⟩|h|⟨h,_⟩
 ·refine⟨rfl,a2,p2,rfl,rfl,rfl,rfl,p3,p4,⟨List.nodup_nil,fun n h=>absurd h (by simp),fun n h hx=>?_⟩,b5⟩;have lX:∀n:Int,aq s.hs n=none:=by
   intro n;cases h:aq s.hs n with
   |none=>rfl
   |some x=>
    obtain⟨m,_,hm,d,hd⟩:=hC.has h;rw[h0 m (by rw[hg.1,hg.2.1]at hm;omega)]at hd;exact absurd hd (by simp)
  rcases Q.Bd with⟨_,_,k,_,_,_,w6,_⟩|⟨w1,_⟩|⟨w1,_⟩
  ·have hx:aq r.1.hs (n:Int)=some h:=hx;rw[w6]at hx;split at hx
   ·injection hx with hx;rw[<-hx];exact aE (aQ rfl)
   ·rw[lX]at hx;exact absurd hx (by simp)
  ·omega
  ·omega
 ·exact absurd (show(0:Int)=7 from h) (by decide)
 ·exact absurd (show(0:Int)=4 from h) (by decide)
theorem pA(ms:List Mi):(bW (CM.new 16 4 128 [] ms)).2=(CM.new 16 4 128 [] ms,0)∧aV (bW (CM.new 16 4 128 [] ms)).1 (CM.new 16 4 128 [] ms)∧Live (bW (CM.new 16 4 128 [] ms)).1 (CM.new 16 4 128 [] ms)∧((bW (CM.new 16 4 128 [] ms)).1.B=16∧(bW (CM.new 16 4 128 [] ms)).1.P=4∧(bW (CM.new 16 4 128 [] ms)).1.Z=128)∧(CM.new 16 4 128 [] ms).bZ=0∧(CM.new 16 4 128 [] ms).ops=0:=by
 obtain⟨h1,h2,h3,h4,h5,h6⟩:=FC [] ms (mA [] ms);exact⟨h1,h2,h3,h5,rfl,rfl⟩
theorem eI:yZ [115,104,101,108,102]:=by
 refine⟨by decide,by decide,?_⟩;decide
theorem U5:yZ [97]:=by
 refine⟨by decide,by decide,?_⟩;decide
def awF:LM×SM×CM×Int:=aL [97] Jc Jb
theorem Y6:(bn awF.2.1 awF.2.2.1 ⟨1,5,2,0⟩ (br 1 128)).2.2.1=1:=by kernel_rfl
theorem Lf{raw d:List UInt8}{h:Hd}(e:fE raw=some (d,h)):h.may=true:=by
 unfold fE at e;split at e
 ·next hc=>
  injection e with e;injection e with _ e;rw[<-e];exact hc.2.1
 ·exact absurd e (by simp)
theorem ad7{n:Nat}{d:List UInt8}{h:Hd}(e:c.vN n=some (d,h)):1<=h.s:=by
 unfold CM.vN CM.ly at e;cases e2:c.Qc (n/c.P) (n%c.P)with
 |none=>rw[e2]at e;exact absurd e (by simp)
 |some raw=>
  rw[e2]at e;have:=Lf e;unfold Hd.may at this;simp at this;omega
theorem gy.last_pos(S:gy nm N l s c):1<=l.last:=by
 obtain⟨es,bK,nps,q0,I⟩:=S.inv;have C:=I.kX;obtain⟨i0,tI⟩:∃i,i<bK.length:=⟨0,by rw[C.cl];exact jB _ _⟩;obtain⟨a,b⟩:=C.cv i0 tI;have:=(C.le _ _ _ a b).1;have:=ad7 b;omega
end
end Go.Proofs.YtalnifciidblkaaGreatDoor
