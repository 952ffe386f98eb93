/-
  Lemmas.
-/
import Derived.Test.YtalnifciidblkaaGreatDoorWL17K
namespace Go.Proofs.YtalnifciidblkaaGreatDoor
open Go.RowKit
set_option linter.unusedSimpArgs false
set_option linter.unusedVariables false
theorem N7(n0 n1:Nt):aO 128 [n0,n1]=[[n0,n1]]:=by
 have hf:p9 128 [n0,n1]=2:=by
  unfold p9;show mY 128 [n0,n1] 2=2;rw[mY,if_pos];have:=CV [n0,n1];show(dB [n0,n1]).length<=128;simp at this;omega
 rw[lO (by omega) (by simp),hf];rfl
section
variable{E:List az}{N:Int}{l:LM}{s:SM}{c:CM}
theorem Lh(S:gy aR N l s c)(q:eD c)(hN:N<=900000){ns:List Nt}(Xz:aO 128 ns=[ns])(hlen:ns.length<=2)(iu:∀n∈ns,n.vg∧n.ok=true)(hp:dd (aI l.T ns)∧pP s (aI l.T ns))(hm:lW l.T ns=true)(hr:1<=bE s c):
  (aA l s c ns).2.2.2=0∧gy aR (N+2) (aA l s c ns).1 (aA l s c ns).2.1 (aA l s c ns).2.2.1∧eD (aA l s c ns).2.2.1∧(aA l s c ns).1.T=aI l.T ns∧(aA l s c ns).1.gen=l.gen∧
   et s<=et (aA l s c ns).2.1+1∧mc s c (aA l s c ns).2.1 (aA l s c ns).2.2.1∧(aA l s c ns).2.2.1.ops<=c.ops+4800:=by
 have hZ:=S.ja.2.2;have e:aA l s c ns=jI s.Z [ns] l s c:=by unfold aA;rw[if_pos hm,hZ,Xz]
 obtain⟨es,bK,nps,q0,I⟩:=S.inv;have hl:=S.last;have ht:=S.aj;have h0:=I.kX.l0;have jD:=I.kX.g0;have DL:=I.kX.gt;have cj:=mF (Z:=s.Z) (by omega) ns.length ns (aN _) (by omega) iu;rw[hZ,Xz]at cj;rw[<-hZ]at cj;have ad9:=tG hp.1 (hp.2.ZU I.sin.cont S.F5);obtain⟨h1,h2⟩:=wP [ns] l s c nps I cj (fun k hk=>by
  have p6:k=0∨k=1:=by simp at hk;omega
  rcases p6 with rfl|rfl
  ·exact⟨I.lA,I.len⟩
  ·have e:aI l.T (([ns].take 1).flatten)=aI l.T ns:=by simp
   rw[e];exact⟨hp.1,ad9⟩) (by simp;omega) (by omega)
 obtain⟨q1,q2,q3,q4⟩:=O1 [ns] l s c I.sin.cont I.live q rfl cj h0 (by simp;omega) jD (by omega) (by simpa using hr);have ho:=(AO [ns] l s c I.sin.cont I.live rfl cj h0 (by simp;omega) jD (by omega)).2;rw[e];generalize jI s.Z [ns] l s c=r at*;have hg:r.2.1.B=16∧r.2.1.P=4∧r.2.1.Z=128:=⟨h1.B.trans S.ja.1,h1.P.trans S.ja.2.1,h1.Z.trans hZ⟩;rcases h2 with⟨a1,⟨Mk,a2⟩,a3,a4,a5,a6,a7,a8⟩|⟨a1,_⟩|⟨a1,_⟩
 ·have hT:r.1.T=aI l.T ns:=by rw[a3];simp
  refine⟨a1,⟨⟨_,_,_,_,a2⟩,hg,h1.kT.trans S.kT,by rw[hT];exact hp.2.eq h1,a5.trans S.name,by simp at a8;omega,by omega⟩,q2,hT,a6,by simpa using q4,h1,?_⟩;simp at ho;omega
 ·omega
 ·omega
end
def qS(a b d:Int):List az:=[⟨0,a,false,1⟩,⟨1,b,true,2⟩,⟨2,d,false,3⟩]
def F7(b:Int):Nt:=⟨false,⟨0,b,false,1⟩⟩
def OL(a:Int):Nt:=⟨false,⟨1,a,true,2⟩⟩
theorem aea(a b d:Int):aI (qS a b d) [F7 b]=qS b b d:=rfl
theorem MO(a b d:Int):aI (qS a b d) [F7 b,OL a]=qS b a d:=rfl
theorem N8(a b d:Int):lW (qS a b d) [F7 b]=false:=by
 unfold lW;rw[aea,show uF (qS b b d)=false by simp[uF,qS]];simp
structure Jk(k:Nat)(a b d:Nat)(N:Int)(l:LM)(s:SM)(c:CM):Prop where
 S:gy aR N l s c
 q:eD c
 T:l.T=qS a b d
 D:∃D,sE s D∧D.length=3
 free:13<=et s+k
section
variable{k a b d:Nat}{N:Int}{l:LM}{s:SM}{c:CM}
theorem Jk.swap(h:Jk k a b d N l s c)(hk:k<12)(hN:N<=800000):
  aA l s c [F7 b]=(l,s,c,2)∧(aA l s c [F7 b,OL a]).2.2.2=0∧Jk (k+1) b a d (N+2) (aA l s c [F7 b,OL a]).1 (aA l s c [F7 b,OL a]).2.1 (aA l s c [F7 b,OL a]).2.2.1∧(aA l s c [F7 b,OL a]).2.2.1.ops<=c.ops+4800:=by
 obtain⟨es,bK,nps,q0,I⟩:=h.S.inv;have hr:=I.lA;rw[h.T]at hr;have Mt:=h.S.F4;rw[h.T]at Mt;have Li:(a:Int)≠b:=hr.B7 (x:=⟨0,a,false,1⟩) (y:=⟨1,b,true,2⟩) (by simp[qS]) (by simp[qS]) (by simp);have Zc:(a:Int)≠d:=hr.B7 (x:=⟨0,a,false,1⟩) (y:=⟨2,d,false,3⟩) (by simp[qS]) (by simp[qS]) (by simp);have Io:(b:Int)≠d:=hr.B7 (x:=⟨1,b,true,2⟩) (y:=⟨2,d,false,3⟩) (by simp[qS]) (by simp[qS]) (by simp);have fa:=(hr.1 ⟨0,a,false,1⟩ (by simp[qS])).2.1;have fb:=(hr.1 ⟨1,b,true,2⟩ (by simp[qS])).2.1;have fd:=(hr.1 ⟨2,d,false,3⟩ (by simp[qS])).2.1;dsimp only at fa fb fd;have hp:dd (aI l.T [F7 b,OL a])∧pP s (aI l.T [F7 b,OL a]):=by
  rw[h.T,MO];refine⟨Ct (by simp[qS,eU]) (fun e he=>?_) (fun x hx y hy hxy=>?_),fun e he=>?_⟩
  ·simp only[qS,l6,rL,or_false]at he;rcases he with rfl|rfl|rfl<;>exact⟨by dsimp only;omega,by assumption,by dsimp only;omega⟩
  ·simp only[qS,l6,rL,or_false]at hx hy;rcases hx with rfl|rfl|rfl<;>rcases hy with rfl|rfl|rfl<;>first|exact absurd rfl hxy|(dsimp only;omega)
  ·simp only[qS,l6,rL,or_false]at he;rcases he with rfl|rfl|rfl
   ·exact Mt ⟨1,b,true,2⟩ (by simp[qS])
   ·exact Mt ⟨0,a,false,1⟩ (by simp[qS])
   ·exact Mt ⟨2,d,false,3⟩ (by simp[qS])
 have cj:∀n∈[F7 b,OL a],n.vg∧n.ok=true:=by
  intro n hn;simp only[l6,rL,or_false]at hn;rcases hn with rfl|rfl
  ·exact⟨⟨by show(0:Int)<=0∧(0:Int)<18446744073709551616;omega,by show(-9223372036854775808:Int)<=(b:Int)∧(b:Int)<=9223372036854775807;omega,by show(-9223372036854775808:Int)<=1∧(1:Int)<=9223372036854775807;omega⟩,by show(decide ((1:Int)<=1)&&decide ((1:Int)<=1099511627775)&&(decide (0<=(b:Int))&&decide ((b:Int)<=255)))=true;rw[decide_eq_true fb.1,decide_eq_true fb.2];rfl⟩
  ·exact⟨⟨by show(0:Int)<=1∧(1:Int)<18446744073709551616;omega,by show(-9223372036854775808:Int)<=(a:Int)∧(a:Int)<=9223372036854775807;omega,by show(-9223372036854775808:Int)<=2∧(2:Int)<=9223372036854775807;omega⟩,by show(decide ((1:Int)<=2)&&decide ((2:Int)<=1099511627775)&&(decide (0<=(a:Int))&&decide ((a:Int)<=255)))=true;rw[decide_eq_true fa.1,decide_eq_true fa.2];rfl⟩
 have hm:lW l.T [F7 b,OL a]=true:=by
  unfold lW;rw[h.T,MO,List.all_eq_true.2 fun n hn=>(cj n hn).2,show uF (qS b a d)=true by simp[uF,qS];omega];rfl
 have hf:=h.free;have hrm:=Ks h.S.yk.1 h.q (show 1<=et s by omega);obtain⟨a1,a2,a3,a4,a5,a6,a7,a8⟩:=Lh h.S h.q (by omega) (N7 _ _) (by simp) cj hp hm hrm;obtain⟨D,hD,hl⟩:=h.D;refine⟨by unfold aA;rw[if_neg (by rw[h.T,N8];decide)],a1,⟨a2,a3,by rw[a4,h.T,MO],⟨D,hD.eq a7,hl⟩,by omega⟩,a8⟩
theorem Jk.check(h:Jk k a b d N l s c)(hk:1<=k∧k<=12)(hN:N<=800000):
  (aH l s c).2.2.2=0∧Jk k a b d (N+30) (aH l s c).1 (aH l s c).2.1 (aH l s c).2.2.1∧(aH l s c).2.2.1.ops<=c.ops+100000:=by
 have hf:=h.free;have hrm:=Ks h.S.yk.1 h.q (show 1<=et s by omega);have WO:l.T.length=3:=by rw[h.T];rfl
 have hp:=Kx 3 (by omega);rw[<-WO]at hp;rw[show(max l.T.length 1+4)/5=1 by rw[WO];rfl]at hp;obtain⟨a1,a2,a3,a4,a5,a6,a7,a8,a9⟩:=h.S.Pw h.q (by omega) (by omega);have ho:=(h.S.yO (by omega)).2;obtain⟨D,hD,hl⟩:=h.D;have h2:=Kt a2.ja.1 a2.ja.2.1;rw[a2.count (hD.eq a9),a6,hp,hl]at h2;exact⟨a1,⟨a2,a3,a4.trans h.T,⟨D,hD.eq a9,hl⟩,by omega⟩,ho⟩
theorem Jk.OV{l':LM}{s':SM}{c':CM}{M:Int}(h:Jk k a b d N l s c)(S':gy aR M l' s' c')(r:Reads c c')(ho:Jv l' s')(hp:l'.ad=l.ad)(hT:l'.T=l.T):Jk k a b d M l' s' c':=by
 obtain⟨D,hD,hl⟩:=ho.F4 S';have hm:=ho.more (h.S.mono (M:=max N M) (by omega)) (S'.mono (M:=max N M) (by omega)) hp hT;exact⟨S',h.q.reads r,hT.trans h.T,⟨D,hD,by rw[hl,hT,h.T];rfl⟩,by have:=h.free;omega⟩
theorem xK.aoU(h:xK (qS a b d) N l s c)(hr:57<=bE s c):Jk 0 a b d N l s c:=by
 have h1:=Sl h.S.yk.1;rw[h.S.ja.2.1]at h1;exact⟨h.S,h.q,h.T,h.D,by omega⟩
end
end Go.Proofs.YtalnifciidblkaaGreatDoor
