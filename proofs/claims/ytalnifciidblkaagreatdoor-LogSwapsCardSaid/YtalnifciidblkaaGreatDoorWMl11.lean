/-
  Lemmas.
-/
import Derived.Test.YtalnifciidblkaaGreatDoorG22
namespace Go.Proofs.YtalnifciidblkaaGreatDoor
open Go.RowKit
set_option linter.unusedSimpArgs false
set_option linter.unusedVariables false
theorem aaK{Z:Nat}:∀(eA:List (List Nt)) (l:LM) (s:SM) (c:CM),aV s c->Live s c->eD c->s.Z=Z->(∀ch∈eA,(NP.mk 0 0 ch).ok Z)->0<=l.last->l.last+eA.length<=1099511627775->0<=l.gen->l.gen<=16777215->(eA.length:Int)<=bE s c->
  aV (jI Z eA l s c).2.1 (jI Z eA l s c).2.2.1∧Live (jI Z eA l s c).2.1 (jI Z eA l s c).2.2.1∧(jI Z eA l s c).1.T=aI l.T eA.flatten∧(jI Z eA l s c).1.last=l.last+eA.length∧(jI Z eA l s c).1.gen=l.gen∧
   (jI Z eA l s c).1.ad.length=l.ad.length+eA.length∧(jI Z eA l s c).2.1.B=s.B∧(jI Z eA l s c).2.1.P=s.P∧(jI Z eA l s c).2.1.Z=s.Z
 |[],l,s,c,hC,hL,q,_,_,_,_,_,_,_=>⟨hC,hL,rfl,by show l.last=l.last+((0:Nat):Int);omega,rfl,rfl,rfl,rfl,rfl⟩
 |ch::eA,l,s,c,hC,hL,q,hZ,cj,h0,h1,h2,h3,hr=>by
  have bm:(ch::eA).length=eA.length+1:=rfl;rw[bm]at h1 hr⊢;have cz:=cj ch dC;obtain⟨m1,m2⟩:=oP (q:=l.last+1) (g:=l.gen) (by omega) (by omega) h2 h3;have hd:(eX ch Z).length=s.Z:=by rw[hZ];exact nY cz.2.2.1
  have Q:=xU (d:=eX ch Z) hC hL m1 m2 hd;obtain⟨p1,p2,p3,p4⟩:=zl (d:=eX ch Z) hC hL q m1 m2 hd (by omega);rw[jI];generalize bn s c (gA (l.last+1) l.gen) (eX ch Z)=r at*;rw[if_neg (by omega)];rcases Q.Bd with⟨_,w2,_⟩|⟨w1,_⟩|⟨w1,_⟩
  ·obtain⟨i1,i2,i3,i4,i5,i6,i7,i8,i9⟩:=aaK eA {l with last:=l.last+1,ad:=l.ad++[r.2.2.1.toNat],T:=aI l.T ch} r.1 r.2.1 Q.cont w2 p2 (Q.Z.trans hZ) (fun x hx=>cj x (fA _ hx)) (by show 0<=l.last+1;omega) (by show l.last+1+(eA.length:Int)<=_;omega) h2 h3 (by omega);refine⟨i1,i2,?_,?_,i5,?_,i7.trans Q.B,i8.trans Q.P,i9.trans Q.Z⟩
   ·rw[i3,kr,fk]
   ·rw[i4];show l.last+1+(eA.length:Int)=l.last+((eA.length+1:Nat):Int);omega
   ·rw[i6];show(l.ad++[r.2.2.1.toNat]).length+eA.length=_;rw[aY];simp;omega
  ·omega
  ·omega
structure W0(k:Nat)(l:LM)(s:SM)(c:CM):Prop where
 C:aV s c
 L:Live s c
 q:eD c
 ja:s.B=16∧s.P=4∧s.Z=128
 pg:D4 l.T
 len:l.T.length<=k
 inc:eU l.T
 pk:uF l.T=true
 last:0<=l.last∧l.last<=1+k
 gen:0<=l.gen∧l.gen<=1
 ad:l.ad.length<=1+k
 ops:c.ops<=2400+2400*k
 room:63-(k:Int)<=bE s c
theorem W0.ym{k:Nat}{l:LM}{s:SM}{c:CM}(h:W0 k l s c)(hk:k<=10){ns:List Nt}(hn:ns.length<=2)(iu:∀n∈ns,n.vg):
  (lW l.T ns=true->(aA l s c ns).2.2.2=0∧W0 (k+2) (aA l s c ns).1 (aA l s c ns).2.1 (aA l s c ns).2.2.1∧(aA l s c ns).1.T=aI l.T ns)∧(lW l.T ns=false->aA l s c ns=(l,s,c,2)):=by
 refine⟨fun hm=>?_,fun hm=>by unfold aA;rw[if_neg (by rw[hm];decide)]⟩;have he:aA l s c ns=jI s.Z (aO s.Z ns) l s c:=by unfold aA;rw[if_pos hm]
 rw[he];unfold lW at hm;simp only[fW,List.all_eq_true]at hm;have hZ:=h.ja.2.2;have hl:=h.last;have hg:=h.gen;obtain⟨f1,f2⟩:=fN (Z:=s.Z) (by omega) ns.length ns (aN _);have cj:=mF (Z:=s.Z) (by omega) ns.length ns (aN _) (by omega) (fun n hn=>⟨iu n hn,hm.1 n hn⟩);have hr:=h.room;obtain⟨q1,q2,q3,q4⟩:=O1 (aO s.Z ns) l s c h.C h.L h.q rfl cj hl.1 (by omega) hg.1 (by omega) (by omega);obtain⟨i1,i2,i3,i4,i5,i6,i7,i8,i9⟩:=aaK (aO s.Z ns) l s c h.C h.L h.q rfl cj hl.1 (by omega) hg.1 (by omega) (by omega);have ho:=(AO (aO s.Z ns) l s c h.C h.L rfl cj hl.1 (by omega) hg.1 (by omega)).2;rw[f1]at i3;have ho':=h.ops;have hp':=h.ad;have hT:=jN h.inc ns;have hlen:=h.len;generalize jI s.Z (aO s.Z ns) l s c=r at*;exact⟨q1,⟨i1,i2,q2,⟨i7.trans h.ja.1,i8.trans h.ja.2.1,i9.trans h.ja.2.2⟩,by rw[i3];exact h.pg.apps hm.1,by rw[i3];omega,by rw[i3];exact qA h.inc _,by rw[i3];exact hm.2.1,by rw[i4];omega,by rw[i5];exact hg,by rw[i6];omega,by omega,by rw[q3];omega⟩,i3⟩
end Go.Proofs.YtalnifciidblkaaGreatDoor
