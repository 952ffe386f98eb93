/-
  Lemmas.
-/
import Derived.Test.YtalnifciidblkaaGreatDoorG19
import Derived.Test.YtalnifciidblkaaGreatDoorG12
namespace Go.Proofs.YtalnifciidblkaaGreatDoor
open _root_.Go.Proofs.Tryz
open Go.RowKit
set_option linter.unusedSimpArgs false
set_option linter.unusedVariables false
set_option maxRecDepth 20000
set_option maxHeartbeats 4000000
def dL(y:List YB)(b:Int):List YB×Int:=match uu y b with
 |none=>(y,2)
 |some x=>if x.state=4 then(y,9)else(lB y b {x with state:=4},0)
def eH(ps:List (Bool×Bool))(k:Nat):List Int:=((List.range k).filter fun i=>(ps.getD i (false,false)).1).map fun i:Nat=>(i:Int)
def cN(y:List YB)(b:Int):List Int:=match uu y b with|some x=>eH x.ad x.ad.length|none=>[]
theorem zm(p:Nat->Bool)(k:Nat):(List.range (k+1)).filter p=if p k then(List.range k).filter p++[k]else(List.range k).filter p:=by
 rw[ub,oA,qf,List.filter_nil];cases p k<;>simp
theorem uk(ps:List (Bool×Bool))(k:Nat):eH ps (k+1)=if(ps.getD k (false,false)).1 then eH ps k++[(k:Int)]else eH ps k:=by
 unfold eH;rw[zm];split<;>simp
theorem wZ(ps:List (Bool×Bool))(k:Nat):(eH ps k).length<=k:=by
 unfold eH;rw[bY];have:=mU (fun i=>(ps.getD i (false,false)).1) (List.range k);simpa using this
theorem EK{w:World}{b o:Nat}{ps:List (Bool×Bool)}(h:∀j u,((ps.map gu).flatten)[j]?=some u->w.cell? ⟨b,o+j,none⟩=some u){k:Nat}(hk:k<ps.length):
  w.cell? ⟨b,o+k*2,none⟩=some (.bool ps[k].1)∧w.cell? ⟨b,o+k*2+1,none⟩=some (.bool ps[k].2):=by
 have hf:∀x∈ps.map gu,x.length=2:=by intro x hx;obtain⟨a,_,rfl⟩:=List.mem_map.1 hx;rfl
 have h0:=dS (size:=2) _ hf k 0 (gu ps[k]) (by simp[hk]) (by omega);have h1:=dS (size:=2) _ hf k 1 (gu ps[k]) (by simp[hk]) (by omega);exact⟨by have:=h _ _ h0;simpa using this,by have:=h _ _ h1;simpa[gW]using this⟩
def U9(l:Nat->List Int)(n:Nat)(F:HL)(w:World)(ov iv:Value)(wr:World):Prop:=
 ∃(k:Nat) (H:HL),k<=n∧iv=.int .i64 k∧aZ ov (l k) H∧Holds wr (H++F)∧af w wr
section
variable{v:Value}{y:List YB}{H Fr:HL}{w:World}
theorem zn(b:Int)(h:dw v y H)(hH:Holds w (H++Fr)):Calls Tryz.prog 89 #[v,.int .i64 b] w (uf v (dL y b) w Fr):=by
 have HI:=aa h;cases ha:uu y b with
 |none=>
  rw[show dL y b=(y,2) by simp[dL,ha]];have HN:=aa (xZ (w:=w) b h hH (qp ha));have ei:=cS;clear ha h;go_enter func89,ntmps89;go_wp2_with fail
  refine HN.o.mono fun e w1 hr=>?_;obtain⟨be,se,rfl,ax,aK⟩:=hr.lit (by decide);have rG:=aa ax;clear HN ax hr;go_wp2_with fail
  go_ret;exact⟨_,H,_,rfl,dO (c:=2) (by decide) be se,HI.o,Holds.swap (A:=[_]) rG.o,aK⟩
 |some x=>
  obtain⟨k,rfl,hk,hx⟩:=iR ha;have hy:=h.small.1;obtain⟨p,g,cap,gp,cp,rfl,ff,gT,_,o9,cg,bz,L8,Bp⟩:=h.open_ hx;obtain⟨c0,c1,c2,c3,f1,f2,cm⟩:=cg w Fr hH;clear L8 Bp cm;have HA:=aa (qZ k w hk hy ff c0);have qG:=cC;have HH:=aa hH;obtain⟨H',uv,PD⟩:=bz w Fr 4 hH ⟨o9.1,o9.2.1,o9.2.2.1,by show(0:Int)<=4∧(4:Int)<=100;omega⟩;have HY:=aa uv;have Ti:=aa PD;have W9:=aa (fun(w:World) hx=>iG 9 w (H++Fr) (by omega) hx);clear hx cg h bz uv PD o9 hH;by_cases hs:x.state=4
  ·rw[show dL y (k:Int)=(y,9) by simp[dL,ha,hs]];rw[hs]at c1;clear ha hs;go_enter func89,ntmps89;go_wp2_with fail
   refine HA.o.mono ?_;rintro e w1⟨rfl,rfl⟩;clear HA;go_wp2_with fail
   refine(W9.o _ HH.o).mono fun e w1 hr=>?_;obtain⟨be,se,rfl,ax,aK⟩:=hr.lit (by decide);have rG:=aa ax;clear ax hr;go_wp2_with fail
   go_ret;exact⟨_,H,_,rfl,dO (c:=9) (by decide) be se,HI.o,Holds.swap (A:=[_]) rG.o,aK⟩
  ·rw[show dL y (k:Int)=(lB y k {x with state:=4},0) by simp[dL,ha,hs]];have e1:(x.state==4)=false:=by simpa using hs
   clear ha hs;go_enter func89,ntmps89;go_wp2_with fail
   refine HA.o.mono ?_;rintro e w1⟨rfl,rfl⟩;clear HA;go_wp2_with fail
   go_ret;exact⟨_,H',[],rfl,bJ.none,HY.o,Ti.o,(af.refl w).setCell _ _⟩
theorem xb(b:Int)(h:dw v y H)(hH:Holds w (H++Fr)):Calls Tryz.prog 150 #[v,.int .i64 b] w (cB (fun v H=>aZ v (cN y b) H) w (H++Fr)):=by
 cases ha:uu y b with
 |none=>
  rw[show cN y b=[] by simp[cN,ha]];have HN:=aa (xZ (w:=w) b h hH (qp ha));have ei:=cS;clear ha h;go_enter func150,ntmps150;go_wp2_with fail
  refine HN.o.mono fun e w1 hr=>?_;obtain⟨be,se,rfl,ax,aK⟩:=hr.lit (by decide);have rG:=aa ax;clear HN ax hr;go_wp2_with fail
  go_ret;exact⟨_,[],rfl,au.nil _ _,rG.o.tail,aK⟩
 |some x=>
  obtain⟨k0,rfl,hk,hx⟩:=iR ha;rw[show cN y (k0:Int)=eH x.ad x.ad.length by simp[cN,ha]];have hy:=h.small.1;obtain⟨p,g,cap,gp,cp,rfl,ff,gT,_,o9,cg,Gc,L8,Bp⟩:=h.open_ hx;obtain⟨c0,c1,c2,c3,f1,f2,cm⟩:=cg w Fr hH;clear Gc L8 Bp cm;have hx8:x.ad.length<=8:=o9.2.2.1;have HA:=aa (qZ k0 w hk hy ff c0);have qG:=cC;have HV:=aa (fun wx hx=>(cg wx Fr hx).2.2.2.2.2.2);clear ha hx cg h o9;generalize H++Fr=F at*;go_enter func150,ntmps150;go_wp2_with fail
  refine HA.o.mono ?_;rintro e w1⟨rfl,rfl⟩;clear HA;go_wp2_with fail
  go_loopw [7,23] (fun ov iv wr=>U9 (eH x.ad) x.ad.length F w ov iv wr) (fun _ iv _=>x.ad.length-(intOf iv).toNat)
  case atStart=>exact⟨0,[],by omega,rfl,au.nil _ _,hH,af.refl w⟩
  case round=>
   obtain⟨k,H3,hk,rfl,hn,eh,gf⟩:=hrel;obtain⟨A3,q3,rfl⟩:=hn.val;have qP:=wZ x.ad k;have hsx:=uk x.ad k;have Ds:=aa hsx;clear hsx;have HN:=aa hn;clear hn;by_cases aG:k<x.ad.length
   ·obtain⟨_,A',c',hv,_,_,cm⟩:=HV.o wr eh.right;injection hv with gM _ kS;subst gM kS;obtain⟨b3,o3,jF,ae⟩:=cm (by omega);injection jF with jF;injection jF with jF ho3;subst jF ho3;obtain⟨x0,x1⟩:=EK ae aG;rw[fp]at x0 x1;have nj:x.ad.getD k (false,false)=x.ad[k]:=by simp[List.getD,aG]
    rw[nj]at Ds;clear ae cm nj;generalize x.ad[k]=pg at*;obtain⟨nd,dt⟩:=pg;simp only at x0 x1 Ds;have bM:=eh.bP (.cells #[.bool nd,.bool dt] 234);have cJ:=gf.alloc (.cells #[.bool nd,.bool dt] 234);have dZ:=bM.bP (.cells #[.int .i64 (k:Int)] 3);have Ir:=aa bM;have S8:=aa dZ;clear bM dZ;cases nd
    ·rw[if_neg (by simp)]at Ds;go_wp2_with fail
     exact⟨⟨k+1,H3,by omega,by go_num,by rw[Ds.o];exact HN.o,Ir.o,cJ⟩,by simp[intOf];omega⟩
    ·rw[if_pos rfl]at Ds;go_wp2_with (at_builtin;refine al ud (by rfl) (.tmp 30) (.tmp 32) (by rfl) (by rfl) (by rfl) HN.o S8.o (ag.abT (by simp)) (by simp[Value.oneCell']) (by simp[maxLen];omega) (by omega) ?_;intro A' c' w' H' ay bg dJ)
     have dN:U9 (eH x.ad) x.ad.length F w (.slice A' ((eH x.ad k).length+1) c') (.int .i64 ((k:Int)+1)) w':=by
      refine⟨k+1,H',by omega,by go_num,?_,bg,(cJ.alloc _).trans dJ⟩;unfold aZ;rw[Ds.o,aY,dm];exact ay
     have fj:=aa dN;clear dN ay bg dJ;go_wp2_with fail
     exact⟨fj.o,by simp[intOf];omega⟩
   ·obtain rfl:k=x.ad.length:=by omega
    go_wp2_with fail
    go_ret;exact⟨_,H3,rfl,HN.o,eh,gf⟩
end
def bX(y:List YB)(b:Int):List YB×Int×Int:=match uu y b with
 |none=>(y,0,2)
 |some x=>if x.state≠2 then(y,0,9)else if(x.ad.length:Int)<=x.taken then(y,0,7)else(lB y b {x with taken:=x.taken+1},x.taken,0)
def nI(y:List YB)(b:Int):List YB×Int:=match uu y b with
 |none=>(y,2)
 |some x=>if(x.state≠2∧x.state≠3)∨cN y b≠[]then(y,9)else(lB y b {x with state:=1,taken:=0},0)
def adv(v:Value)(r:List YB×Int×Int)(w:World)(Fr:HL)(e:Ending)(w':World):Prop:=∃ve H He,e=.returned (.tuple #[.int .i64 r.2.1,ve])∧bJ ve r.2.2 He∧dw v r.1 H∧Holds w' (H++(He++Fr))∧af w w'
section
variable{v:Value}{y:List YB}{H Fr:HL}{w:World}
end
section
variable{v:Value}{y:List YB}{H Fr:HL}{w:World}
theorem QH(b:Int)(h:dw v y H)(hH:Holds w (H++Fr)):Calls Tryz.prog 68 #[v,.int .i64 b] w (adv v (bX y b) w Fr):=by
 have HI:=aa h;cases ha:uu y b with
 |none=>
  rw[show bX y b=(y,0,2) by simp[bX,ha]];have HN:=aa (xZ (w:=w) b h hH (qp ha));have ei:=cS;clear ha h;go_enter func68,ntmps68;go_wp2_with fail
  refine HN.o.mono fun e w1 hr=>?_;obtain⟨be,se,rfl,ax,aK⟩:=hr.lit (by decide);have rG:=aa ax;clear HN ax hr;go_wp2_with fail
  go_ret2
  exact⟨_,H,_,rfl,dO (c:=2) (by decide) be se,HI.o,Holds.swap (A:=[_]) rG.o,aK⟩
 |some x=>
  obtain⟨k,rfl,hk,hx⟩:=iR ha;have hy:=h.small.1;obtain⟨p,g,cap,gp,cp,rfl,ff,gT,_,o9,cg,Gc,bz,Bp⟩:=h.open_ hx;obtain⟨c0,c1,c2,c3,f1,f2,cm⟩:=cg w Fr hH;have ik:=cm.le;unfold maxLen at ik;clear Gc Bp cm;have HA:=aa (qZ k w hk hy ff c0);have qG:=cC;have HH:=aa hH;have xO:=aa bz;have HXO:=aa o9;have W9:=aa (fun(w:World) hx=>iG 9 w (H++Fr) (by omega) hx);have W7:=aa (fun(w:World) hx=>iG 7 w (H++Fr) (by omega) hx);have ht0:=o9.1;have ht8:=o9.2.1;have Zg:=o9.2.2.1;clear hx cg h bz o9 hH;by_cases hs:x.state=2
  ·rw[hs]at c1;have Jo:¬(x.state≠2):=by omega
   by_cases hfu:(x.ad.length:Int)<=x.taken
   ·rw[show bX y (k:Int)=(y,0,7) by simp[bX,ha,hs,hfu]];clear ha hs Jo;generalize x.taken=t at*;generalize x.ad.length=n at*;go_enter func68,ntmps68;go_wp2_with fail
    refine HA.o.mono ?_;rintro e w1⟨rfl,rfl⟩;clear HA;go_wp2_with fail
    go_quiet (fail)
    go_wp2_with fail
    refine(W7.o _ (HH.o.drewN nq)).mono fun e w1 hr=>?_;obtain⟨be,se,rfl,ax,aK⟩:=hr.lit (by decide);have rG:=aa ax;clear ax hr;go_wp2_with fail
    go_ret2
    exact⟨_,H,_,rfl,dO (c:=7) (by decide) be se,HI.o,Holds.swap (A:=[_]) rG.o,((af.refl w).drewN nq).trans aK⟩
   ·rw[show bX y (k:Int)=(lB y k {x with taken:=x.taken+1},x.taken,0) by simp[bX,ha,hs,hfu]];have vD:({x with taken:=x.taken+1}:YB).ok:=⟨by show 0<=x.taken+1;omega,by show x.taken+1<=8;omega,HXO.o.2.2.1,HXO.o.2.2.2⟩;have Gd:=aa vD;clear vD;clear ha hs Jo;go_enter func68,ntmps68;go_wp2_with fail
    refine HA.o.mono ?_;rintro e w1⟨rfl,rfl⟩;clear HA;go_wp2_with fail
    go_quiet (fail)
    obtain⟨H',uv,PD⟩:=xO.o (w.drewN nq) Fr (x.taken+1) (HH.o.drewN nq) Gd.o;have HY:=aa uv;have Ti:=aa PD;clear uv PD;go_wp2_with fail
    go_ret2
    exact⟨_,H',[],rfl,bJ.none,HY.o,Ti.o,((af.refl w).drewN nq).setCell _ _⟩
  ·have e1:(x.state !=2)=true:=by simpa using hs
   rw[show bX y (k:Int)=(y,0,9) by simp[bX,ha,hs]];clear ha hs;go_enter func68,ntmps68;go_wp2_with fail
   refine HA.o.mono ?_;rintro e w1⟨rfl,rfl⟩;clear HA;go_wp2_with fail
   refine(W9.o _ HH.o).mono fun e w1 hr=>?_;obtain⟨be,se,rfl,ax,aK⟩:=hr.lit (by decide);have rG:=aa ax;clear ax hr;go_wp2_with fail
   go_ret2
   exact⟨_,H,_,rfl,dO (c:=9) (by decide) be se,HI.o,Holds.swap (A:=[_]) rG.o,aK⟩
theorem QI(b:Int)(h:dw v y H)(hH:Holds w (H++Fr)):Calls Tryz.prog 137 #[v,.int .i64 b] w (uf v (nI y b) w Fr):=by
 have HI:=aa h;cases ha:uu y b with
 |none=>
  rw[show nI y b=(y,2) by simp[nI,ha]];have HN:=aa (xZ (w:=w) b h hH (qp ha));have ei:=cS;clear ha h;go_enter func137,ntmps137;go_wp2_with fail
  refine HN.o.mono fun e w1 hr=>?_;obtain⟨be,se,rfl,ax,aK⟩:=hr.lit (by decide);have rG:=aa ax;clear HN ax hr;go_wp2_with fail
  go_ret;exact⟨_,H,_,rfl,dO (c:=2) (by decide) be se,HI.o,Holds.swap (A:=[_]) rG.o,aK⟩
 |some x=>
  obtain⟨k,rfl,hk,hx⟩:=iR ha;have hy:=h.small.1;have Dp:=aa (xb (w:=w) (k:Int) h hH);have qP:(cN y (k:Int)).length<=8:=by
   rw[show cN y (k:Int)=eH x.ad x.ad.length by simp[cN,ha]];have:=wZ x.ad x.ad.length;have:=(h.small.2 x (gD hx)).2.2.1;omega
  have Xf:∀r,nI y (k:Int)=r->nI y (k:Int)=r:=fun _ h=>h;have hyf:nI y (k:Int)=if(x.state≠2∧x.state≠3)∨cN y (k:Int)≠[]then(y,9)else(lB y k {x with state:=1,taken:=0},0):=by simp[nI,ha]
  rw[hyf];obtain⟨p,g,cap,gp,cp,rfl,ff,gT,_,o9,cg,Gc,L8,Bp,bz⟩:=h.open_ hx;obtain⟨c0,c1,c2,c3,f1,f2,cm⟩:=cg w Fr hH;clear Gc L8 Bp cm Xf;have HA:=aa (qZ k w hk hy ff c0);have qG:=cC;have HH:=aa hH;have vD:({x with state:=1,taken:=0}:YB).ok:=⟨by show(0:Int)<=0;omega,by show(0:Int)<=8;omega,o9.2.2.1,by show(0:Int)<=1∧(1:Int)<=100;omega⟩;have HV:=aa (fun wx F (hx:Holds wx (H++F))=>aS (cg wx F hx).2.1 (aS (cg wx F hx).2.2.1 (aS (cg wx F hx).2.2.2.2.1 (cg wx F hx).2.2.2.2.2.1)));have xO:=aa (fun wx F (hx:Holds wx (H++F))=>bz wx F 1 0 hx vD);have W9:=aa (fun(w:World) F hx=>iG 9 w F (by omega) hx);have HPO:=aa (show lB y (k:Int) {x with state:=1,taken:=0}=y.set k {x with state:=1,taken:=0} by simp[lB]);clear bz cg o9 vD h hx ha hyf hH;have tO:∀(w1:World) (F:HL),Holds w1 (H++F)->Calls Tryz.prog 139 #[.int .i64 9] w1 (pR 9 w1 (H++F)):=fun w1 F hF=>W9.o w1 _ hF;have agU:=aa tO;clear tO;by_cases h23:x.state≠2∧x.state≠3
  ·rw[if_pos (.inl h23)];have e1:(x.state !=2)=true:=by simpa using h23.1
   have e2:(x.state !=3)=true:=by simpa using h23.2
   clear h23;go_enter func137,ntmps137;go_wp2_with fail
   refine HA.o.mono ?_;rintro e w1⟨rfl,rfl⟩;clear HA;go_wp2_with fail
   refine(agU.o _ _ HH.o).mono fun e w1 hr=>?_;obtain⟨be,se,rfl,ax,aK⟩:=hr.lit (by decide);have rG:=aa ax;clear ax hr;go_wp2_with fail
   go_ret;exact⟨_,H,_,rfl,dO (c:=9) (by decide) be se,HI.o,Holds.swap (A:=[_]) rG.o,aK⟩
  ·have e12:((x.state !=2)=false)∨((x.state !=2)=true∧(x.state !=3)=false):=by
    by_cases h2:x.state=2
    ·left;simp[h2]
    ·right;refine⟨by simpa using h2,?_⟩
     have:x.state=3:=by omega
     simp[this]
   have hif:((x.state≠2∧x.state≠3)∨cN y (k:Int)≠[])↔cN y (k:Int)≠[]:=by
    constructor
    ·rintro(h|h)
     ·exact absurd h h23
     ·exact h
    ·exact .inr
   simp only[hif];clear hif h23;generalize Ln:cN y (k:Int)=yn at*;clear Ln;by_cases XP:yn=[]
   ·subst XP;rw[if_neg (by simp)];rcases e12 with e1|⟨e1,e2⟩;all_goals
     go_enter func137,ntmps137;go_wp2_with fail
     refine HA.o.mono ?_;rintro e w1⟨rfl,rfl⟩;clear HA;go_wp2_with fail
     refine Dp.o.mono ?_;rintro e w1⟨nv,Hn,rfl,FO,ax,aK⟩;obtain⟨An,qn,rfl⟩:=FO.val;have hHx:Holds w1 (H++(Hn++Fr)):=ax.swap;obtain⟨d1,d2,g1,g2⟩:=HV.o w1 _ hHx;obtain⟨g3,d3,H2,h2,Oh⟩:=xO.o w1 _ hHx;have H2':=aa h2;have Oi:=aa Oh;clear h2 Oh FO ax hHx Dp c1 c2 f1 f2;go_wp2_with fail
     go_ret;exact⟨_,H2,[],rfl,bJ.none,by rw[HPO.o];exact H2'.o,Holds.DD (A:=H2) (B:=Hn) Oi.o,(aK.setCell _ _).setCell _ _⟩
   ·rw[if_pos XP];have hlen:(0:Int)<(yn.length:Int):=by
     cases yn with
     |nil=>exact absurd rfl XP
     |cons a l=>show(0:Int)<((l.length+1:Nat):Int);omega
    clear XP;rcases e12 with e1|⟨e1,e2⟩;all_goals
     go_enter func137,ntmps137;go_wp2_with fail
     refine HA.o.mono ?_;rintro e w1⟨rfl,rfl⟩;clear HA;go_wp2_with fail
     refine Dp.o.mono ?_;rintro e w1⟨nv,Hn,rfl,FO,ax,aK⟩;obtain⟨An,qn,rfl⟩:=FO.val;have hHx:Holds w1 (H++(Hn++Fr)):=ax.swap;have HHX:=aa hHx;clear FO ax hHx Dp c1 c2 f1 f2;go_wp2_with fail
     refine(agU.o _ _ HHX.o).mono fun e w2 hr=>?_;obtain⟨be,se,rfl,aB,aX⟩:=hr.lit (by decide);have Oi:=aa aB;clear aB hr;go_wp2_with fail
     go_ret;exact⟨_,H,_,rfl,dO (c:=9) (by decide) be se,HI.o,Oi.o.p,aK.trans aX⟩
end
def IQ(y:List YB)(b n:Int):Option (YB×Bool×Bool):=match uu y b with
 |none=>none
 |some x=>if 0<=n∧n<(x.ad.length:Int)then some (x,x.ad.getD n.toNat (false,false))else none
def ug(y:List YB)(b n:Int)(x:YB)(p:Bool×Bool):List YB:=lB y b {x with ad:=x.ad.set n.toNat p}
def oB(y:List YB)(b n:Int)(d:Bool):List YB×Int:=match IQ y b n with
 |none=>(y,2)
 |some (x,p)=>if x.taken<=n∨p.1=true then(y,9)else(ug y b n x (true,d),0)
def mW(y:List YB)(b n:Int):List YB×Int:=match IQ y b n with
 |none=>(y,2)
 |some (x,p)=>if p.1=true then(ug y b n x (false,false),0)else(y,8)
def agV(v:Value)(y:List YB)(H:HL)(k i:Nat)(x:YB)(q:Bool×Bool)(gp:Nat):Prop:=
 (∀(w:World) (F:HL),Holds w (H++F)->w.cell? ⟨gp,i*2,none⟩=some (.bool q.1)∧w.cell? ⟨gp,i*2+1,none⟩=some (.bool q.2)∧w.frozen? ⟨gp,i*2,none⟩=false∧w.frozen? ⟨gp,i*2+1,none⟩=false∧
  (∀u:Bool×Bool,∃H',dw v (ug y k i x u) H'∧Holds ((w.setCell ⟨gp,i*2,none⟩ (.bool u.1)).setCell ⟨gp,i*2+1,none⟩ (.bool u.2)) (H'++F))∧
  (∀u:Bool,∃H',dw v (ug y k i x (q.1,u)) H'∧Holds (w.setCell ⟨gp,i*2+1,none⟩ (.bool u)) (H'++F)))
section
variable{v:Value}{y:List YB}{H Fr:HL}{w:World}
theorem Ca{b n:Int}{x:YB}{q:Bool×Bool}(h:IQ y b n=some (x,q)):uu y b=some x∧∃i:Nat,n=(i:Int)∧i<x.ad.length∧x.ad[i]?=some q:=by
 unfold IQ at h;cases ha:uu y b with
 |none=>rw[ha]at h;cases h
 |some x2=>
  rw[ha]at h;simp only at h;split at h
  ·rename_i hb;obtain⟨i,rfl⟩:=Int.eq_ofNat_of_zero_le hb.1;have hi:i<x2.ad.length:=by omega
   simp only[Option.some.injEq,Prod.mk.injEq]at h;obtain⟨rfl,h⟩:=h;refine⟨rfl,i,rfl,hi,?_⟩;rw[<-h];simp[List.getD,hi]
  ·cases h
theorem JQ(b n:Int)(h:dw v y H)(hH:Holds w (H++Fr))(hp:IQ y b n=none):Calls Tryz.prog 195 #[v,.int .i64 b,.int .i64 n] w (wh 2 w (H++Fr)):=by
 have ei:=cS;have qG:=cC;cases ha:uu y b with
 |none=>
  have HN:=aa (xZ (w:=w) b h hH (qp ha));clear ha h hp;go_enter func195,ntmps195;go_wp2_with fail
  refine HN.o.mono fun e w1 hr=>?_;obtain⟨be,se,rfl,ax,aK⟩:=hr.lit (by decide);have rG:=aa ax;clear HN ax hr;go_wp2_with fail
  go_ret2
  exact⟨_,_,rfl,dO (c:=2) (by decide) be se,rG.o,aK⟩
 |some x=>
  have hn:¬(0<=n∧n<(x.ad.length:Int)):=by
   intro hn;unfold IQ at hp;rw[ha]at hp;simp only[if_pos hn]at hp;cases hp
  obtain⟨k,rfl,hk,hx⟩:=iR ha;have hy:=h.small.1;obtain⟨p,g,cap,gp,cp,rfl,ff,gT,_,o9,cg,Gc⟩:=h.open_ hx;obtain⟨c0,c1,c2,c3,f1,f2,cm⟩:=cg w Fr hH;have ik:=cm.le;unfold maxLen at ik;have HA:=aa (qZ k w hk hy ff c0);have HH:=aa hH;have W2:=aa (fun(w:World) hx=>iG 2 w (H++Fr) (by omega) hx);clear Gc cm hx cg h o9 hH ha hp;generalize x.ad.length=m at*;have h2:n<0∨(¬n<0∧(m:Int)<=n):=by omega
  clear hn;rcases h2 with h2|⟨h2,h3⟩;all_goals
   go_enter func195,ntmps195;go_wp2_with fail
   refine HA.o.mono ?_;rintro e w1⟨rfl,rfl⟩;clear HA;go_wp2_with fail
   refine(W2.o _ HH.o).mono fun e w1 hr=>?_;obtain⟨be,se,rfl,ax,aK⟩:=hr.lit (by decide);have rG:=aa ax;clear ax hr;go_wp2_with fail
   go_ret2
   exact⟨_,_,rfl,dO (c:=2) (by decide) be se,rG.o,aK⟩
theorem yq(k i:Nat){x:YB}{q:Bool×Bool}(h:dw v y H)(hH:Holds w (H++Fr))(ha:uu y (k:Int)=some x)(hi:x.ad[i]?=some q):
  ∃gp,agV v y H k i x q gp∧Calls Tryz.prog 195 #[v,.int .i64 (k:Int),.int .i64 (i:Int)] w fun e w'=>e=.returned (.tuple #[.pointer (some ⟨gp,i*2,none⟩),.nilIface])∧w=w':=by
 obtain⟨k',xt,hk,hx⟩:=iR ha;obtain rfl:k=k':=by omega
 have hy:=h.small.1;obtain⟨p,g,cap,gp,cp,rfl,ff,gT,_,o9,cg,_,_,kg,_⟩:=h.open_ hx;obtain⟨Wz,hiq⟩:=List.getElem?_eq_some_iff.1 hi;refine⟨gp,?_,?_⟩
 ·intro w F hH;obtain⟨_,_,_,_,_,_,_,A,c,hv,_,_,cm⟩:=cg w F hH;injection hv with gM _ kS;subst gM kS;obtain⟨b3,o3,jF,ae⟩:=cm (by omega);injection jF with jF;injection jF with jF ho3;subst jF ho3;obtain⟨x0,x1⟩:=EK ae Wz;rw[fp]at x0 x1;rw[hiq]at x0 x1;obtain⟨f1,f2,s1,s2⟩:=kg i Wz w F hH;have nj:x.ad.getD i (false,false)=q:=by simp[List.getD,hi]
  refine⟨x0,x1,f1,f2,fun u=>?_,fun u=>?_⟩
  ·obtain⟨H',h1,h2⟩:=s1 u;exact⟨H',by simpa[ug,lB]using h1,h2⟩
  ·obtain⟨H',h1,h2⟩:=s2 u;rw[nj]at h1;exact⟨H',by simpa[ug,lB]using h1,h2⟩
 ·obtain⟨c0,c1,c2,c3,f1,f2,cm⟩:=cg w Fr hH;have ik:=cm.le;unfold maxLen at ik;have HA:=aa (qZ k w hk hy ff c0);have qG:=cC;have hii:(i:Int)<(x.ad.length:Int):=by omega
  clear kg cm hx cg h o9 hH ha hi hiq;generalize x.ad.length=m at*;go_enter func195,ntmps195;go_wp2_with fail
  refine HA.o.mono ?_;rintro e w1⟨rfl,rfl⟩;clear HA;go_wp2_with fail
  go_ret2
  exact⟨rfl,rfl⟩
end
section
variable{v:Value}{y:List YB}{H Fr:HL}{w:World}
theorem QJ(b n:Int)(c:Int)(h:dw v y H)(hH:Holds w (H++Fr))(hp:(IQ y b n=none∧c=2)∨(∃x q,IQ y b n=some (x,q)∧q.1=false∧c=8)):Calls Tryz.prog 169 #[v,.int .i64 b,.int .i64 n] w (wh c w (H++Fr)):=by
 have ei:=cS;have qG:=cC;rcases hp with⟨hp,rfl⟩|⟨x,q,hp,hq,rfl⟩
 ·have HN:=aa (JQ (w:=w) b n h hH hp);clear h hp;go_enter func169,ntmps169;go_wp2_with fail
  refine HN.o.mono fun e w1 hr=>?_;obtain⟨be,se,rfl,ax,aK⟩:=hr.lit (by decide);have rG:=aa ax;clear HN ax hr;go_wp2_with fail
  go_ret2
  exact⟨_,_,rfl,dO (c:=2) (by decide) be se,rG.o,aK⟩
 ·obtain⟨ha,i,rfl,hi,hx⟩:=Ca hp;obtain⟨k,rfl,hk,_⟩:=iR ha;obtain⟨gp,kg,hc⟩:=yq k i h hH ha hx;obtain⟨x0,x1,f1,f2,s1,s2⟩:=kg w Fr hH;rw[hq]at x0;have HC:=aa hc;have HH:=aa hH;have W8:=aa (fun(w:World) hx=>iG 8 w (H++Fr) (by omega) hx);clear h hp ha hx kg hc s1 s2 hq hH;go_enter func169,ntmps169;go_wp2_with fail
  refine HC.o.mono ?_;rintro e w1⟨rfl,rfl⟩;clear HC;go_wp2_with fail
  refine(W8.o _ HH.o).mono fun e w1 hr=>?_;obtain⟨be,se,rfl,ax,aK⟩:=hr.lit (by decide);have rG:=aa ax;clear ax hr;go_wp2_with fail
  go_ret2
  exact⟨_,_,rfl,dO (c:=8) (by decide) be se,rG.o,aK⟩
theorem MT(b n:Int){x:YB}{q:Bool×Bool}(h:dw v y H)(hH:Holds w (H++Fr))(hp:IQ y b n=some (x,q))(hq:q.1=true):
  ∃k i gp:Nat,b=k∧n=i∧agV v y H k i x q gp∧Calls Tryz.prog 169 #[v,.int .i64 b,.int .i64 n] w fun e w'=>e=.returned (.tuple #[.pointer (some ⟨gp,i*2,none⟩),.nilIface])∧w=w':=by
 have qG:=cC;obtain⟨ha,i,rfl,hi,hx⟩:=Ca hp;obtain⟨k,rfl,hk,_⟩:=iR ha;obtain⟨gp,kg,hc⟩:=yq k i h hH ha hx;refine⟨k,i,gp,rfl,rfl,kg,?_⟩;obtain⟨x0,x1,f1,f2,s1,s2⟩:=kg w Fr hH;rw[hq]at x0;have HC:=aa hc;clear h hp ha hx kg hc s1 s2 hq hH;go_enter func169,ntmps169;go_wp2_with fail
 refine HC.o.mono ?_;rintro e w1⟨rfl,rfl⟩;clear HC;go_wp2_with fail
 go_ret2
 exact⟨rfl,rfl⟩
theorem QK(b n:Int)(h:dw v y H)(hH:Holds w (H++Fr)):Calls Tryz.prog 96 #[v,.int .i64 b,.int .i64 n] w (uf v (mW y b n) w Fr):=by
 have HI:=aa h;have ei:=cS;have qG:=cC;have tO:∀c:Int,c≠0->mW y b n=(y,c)->((IQ y b n=none∧c=2)∨(∃x q,IQ y b n=some (x,q)∧q.1=false∧c=8))->Calls Tryz.prog 96 #[v,.int .i64 b,.int .i64 n] w (uf v (mW y b n) w Fr):=by
  intro c hc e1 hp;rw[e1];have HN:=aa (QJ (w:=w) b n c h hH hp);have HC:=aa hc;clear h hp e1 hc;go_enter func96,ntmps96;go_wp2_with fail
  refine HN.o.mono fun e w1 hr=>?_;obtain⟨be,se,rfl,ax,aK⟩:=hr.lit HC.o;have rG:=aa ax;clear HN ax hr;go_wp2_with fail
  go_ret;exact⟨_,H,_,rfl,dO HC.o be se,HI.o,Holds.swap (A:=[_]) rG.o,aK⟩
 cases hp:IQ y b n with
 |none=>exact tO 2 (by decide) (by simp[mW,hp]) (.inl ⟨hp,rfl⟩)
 |some xq=>
  obtain⟨x,q⟩:=xq;cases hq:q.1 with
  |false=>exact tO 8 (by decide) (by simp[mW,hp,hq]) (.inr ⟨x,q,hp,hq,rfl⟩)
  |true=>
   rw[show mW y b n=(ug y b n x (false,false),0) by simp[mW,hp,hq]];obtain⟨k,i,gp,rfl,rfl,kg,hc⟩:=MT (w:=w) b n h hH hp hq;obtain⟨x0,x1,f1,f2,s1,s2⟩:=kg w Fr hH;obtain⟨H',h1,h2⟩:=s1 (false,false);have HC:=aa hc;have HY:=aa h1;have Ti:=aa h2;have hf3:(w.setCell ⟨gp,i*2,none⟩ (.bool false)).frozen? ⟨gp,i*2+1,none⟩=false:=by
    obtain⟨H9,h9,hh9⟩:=s1 (false,q.2);simp[f2]
   clear h hp kg hc s1 s2 hq hH tO h1 h2;obtain⟨q1,q2⟩:=q;simp only at x0 x1;go_enter func96,ntmps96;go_wp2_with fail
   refine HC.o.mono ?_;rintro e w1⟨rfl,rfl⟩;clear HC;go_wp2_with fail
   go_ret;exact⟨_,H',[],rfl,bJ.none,HY.o,Ti.o,((af.refl w).setCell _ _).setCell _ _⟩
theorem QL(b n:Int)(bR:Bool)(h:dw v y H)(hH:Holds w (H++Fr)):Calls Tryz.prog 145 #[v,.int .i64 b,.int .i64 n,.bool bR] w (uf v (oB y b n bR) w Fr):=by
 have HI:=aa h;have ei:=cS;have qG:=cC;cases hp:IQ y b n with
 |none=>
  rw[show oB y b n bR=(y,2) by simp[oB,hp]];have HN:=aa (JQ (w:=w) b n h hH hp);clear h hp;go_enter func145,ntmps145;go_wp2_with fail
  refine HN.o.mono fun e w1 hr=>?_;obtain⟨be,se,rfl,ax,aK⟩:=hr.lit (by decide);have rG:=aa ax;clear HN ax hr;go_wp2_with fail
  go_ret;exact⟨_,H,_,rfl,dO (c:=2) (by decide) be se,HI.o,Holds.swap (A:=[_]) rG.o,aK⟩
 |some xq=>
  obtain⟨x,q⟩:=xq;have Ln:oB y b n bR=if x.taken<=n∨q.1=true then(y,9)else(ug y b n x (true,bR),0):=by simp[oB,hp]
  rw[Ln];obtain⟨ha,i,rfl,hi,hx⟩:=Ca hp;obtain⟨k,rfl,hk,hxk⟩:=iR ha;have hy:=h.small.1;obtain⟨gp,kg,hc⟩:=yq k i h hH ha hx;obtain⟨x0,x1,f1,f2,s1,s2⟩:=kg w Fr hH;obtain⟨H',h1,h2⟩:=s1 (true,bR);obtain⟨p,g,cap,gp2,cp,rfl,ff,gT,_,o9,cg,hse⟩:=h.open_ hxk;obtain⟨c0,c1,c2,c3,e1,e2,cm⟩:=cg w Fr hH;have HC:=aa hc;have HY:=aa h1;have Ti:=aa h2;have HH:=aa hH;have W9:=aa (fun(w:World) hx=>iG 9 w (H++Fr) (by omega) hx);clear h hp kg hc s1 s2 hH h1 h2 hse cm cg o9 Ln ha hx hxk;obtain⟨q1,q2⟩:=q;simp only at x0 x1;by_cases oR:x.taken<=(i:Int)∨q1=true
  ·rw[if_pos oR];have h3:x.taken<=(i:Int)∨(¬x.taken<=(i:Int)∧q1=true):=by
    by_cases ht:x.taken<=(i:Int)
    ·exact .inl ht
    ·exact .inr ⟨ht,oR.resolve_left ht⟩
   clear oR;generalize x.taken=t at*;rcases h3 with h3|⟨h3,rfl⟩;all_goals
    go_enter func145,ntmps145;go_wp2_with fail
    refine HC.o.mono ?_;rintro e w1⟨rfl,rfl⟩;clear HC;go_wp2_with fail
    refine(W9.o _ HH.o).mono fun e w1 hr=>?_;obtain⟨be,se,rfl,ax,aK⟩:=hr.lit (by decide);have rG:=aa ax;clear ax hr;go_wp2_with fail
    go_ret;exact⟨_,H,_,rfl,dO (c:=9) (by decide) be se,HI.o,Holds.swap (A:=[_]) rG.o,aK⟩
  ·rw[if_neg oR];have h3:¬x.taken<=(i:Int):=fun h=>oR (.inl h);have DI:q1=false:=by cases q1;rfl;exact absurd (.inr rfl) oR
   subst DI;clear oR;generalize x.taken=t at*;go_enter func145,ntmps145;go_wp2_with fail
   refine HC.o.mono ?_;rintro e w1⟨rfl,rfl⟩;clear HC;go_wp2_with fail
   go_ret;exact⟨_,H',[],rfl,bJ.none,HY.o,Ti.o,((af.refl w).setCell _ _).setCell _ _⟩
end
theorem ag.ai0{w:World}{e:TypeId}{n size g:Nat}{cs:Array Value}(hg:g=w.heap.size)(hs:cs.size=n*size)(hn:n<=maxLen):ag (w.alloc (.cells cs e)) size (.slice (some ⟨g,0,none⟩) n n) n cs.toList:=by
 subst hg;exact ag.many hs hn
def vE(n m:Nat):List YB:=List.replicate n ⟨1,0,List.replicate m (false,false)⟩
def Va(b n m:Nat)(w:World)(Fr:HL)(iv:Value)(wr:World):Prop:=
 ∃(k:Nat) (A:Option Addr) (c:Nat) (Hm:HL),k<=n∧iv=.int .i64 k∧eK ybR 152 3 (.slice A k c) (vE k m) Hm∧Holds wr ((b,.cells #[.slice A k c] 149)::(Hm++Fr))∧af w wr
theorem QM(n m:Nat)(Fr:HL)(w:World)(hH:Holds w Fr)(qM:1<=n)(tS:n<=32)(oc:1<=m)(si:m<=8):
  Calls Tryz.prog 45 #[.int .i64 (n:Int),.int .i64 (m:Int)] w (cB (fun v H=>dw v (vE n m) H) w Fr):=by
 have yU:=fun w=>qt (P:=Tryz.prog) YG m m (aN _) (by omega) (by simp[maxLen];omega) w;obtain⟨ps,xv⟩:∃ps,ps=madeCells (Value.agg #[.bool false,.bool false]).cells (m*2):=⟨_,rfl⟩;rw[<-xv]at yU;have Zp:∀g:Nat,au 234 2 (.slice (some ⟨g,0,none⟩) m m) m (((List.replicate m (false,false)).map gu).flatten) [(g,.cells ps 234)]:=by
  intro g;have h:=au.made (size:=2) (e:=234) g m ps (by rw[xv,tt]) (by simp[maxLen];omega);have e:ps.toList=((List.replicate m (false,false)).map gu).flatten:=by
   rw[xv];apply aaN
   ·have:=kB (size:=2) ((List.replicate m (false,false)).map gu) (by intro z hz;obtain⟨a,_,rfl⟩:=List.mem_map.1 hz;rfl);rw[this];simp[madeCells]
   ·intro i h1 h2;have eB:∀z∈((List.replicate m (false,false)).map gu).flatten,z=Value.bool false:=by
     intro z hz;obtain⟨c,hc,Ww⟩:=List.mem_flatten.1 hz;obtain⟨q,hq,rfl⟩:=List.mem_map.1 hc;have:=ow hq;subst this;simpa[gu]using Ww
    rw[eB _ (cX h2)];have Zf:i%2=0∨i%2=1:=by omega
    rcases Zf with h|h<;>simp[madeCells,Value.cells,h]
  rw[e]at h;exact h
 have Zq:=aa Zp;clear Zp xv;go_enter func45,ntmps45;go_wp2_with fail
 go_loopw [23] (fun iv wr=>Va w.heap.size n m w Fr iv wr) (fun iv _=>n-(intOf iv).toNat)
 case atStart=>exact⟨0,none,0,[],by omega,rfl,eK.nil _ _ _,hH.alloc _,(af.refl w).alloc _⟩
 case round=>
  obtain⟨k,A,c,Hm,hk,rfl,hr,eh,gf⟩:=hrel;have Dn:(vE k m).length=k:=by simp[vE]
  obtain⟨cells,H0,H1,rfl,ay,_,F8⟩:=hr.Gv;rw[Dn]at ay F8;have jm:=aa ay;have Jp:=aa F8;have HR:=aa hr;clear ay F8 hr;by_cases aG:k<n
  ·have HS:=aa (fun(wx:World) (HH:HL) (hx:Holds wx HH) (hm:(w.heap.size,Obj.cells #[.slice A k c] 149)∈HH)=>aS (hx.cell hm 0) (hx.frozen hm 0));go_upto_region 6 with fail
   refine aF (fun wx=>wx.cell? ⟨w.heap.size,0,none⟩=some (.slice A k c)∧wx.frozen? ⟨w.heap.size,0,none⟩=false) 12 (by kernel_rfl) (fun w1 hd=>HS.o _ _ (eh.dr hd) (by simp)) (fun w1 hd hs=>?_);have ax:=eh.dr hd;have gY:=gf.trans (af.dr hd);clear hd eh gf;refine dY 0 1 2 3 ?_;refine qL 4 5 ?_;refine Zm 6 fun K hK=>?_;go_simp;refine hK _ _ (HS.o _ _ (ax.alloc _) (by simp)) (fun _=>?_);clear hK K hs;rename_i hs;refine ji 7 ?_;refine Zm 8 fun K hK=>?_;go_simp;refine hK _ _ (HS.o _ _ ((ax.alloc _).alloc _) (by simp)) (fun _=>?_);clear hK K hs;rename_i hs;refine Zm 9 fun K hK=>?_;refine bf Vy (by rfl) _ _ (by rfl) (by rfl) (by rfl) jm.o (Fr:=(w1.heap.size,.cells ps 234)::((w.heap.size,.cells #[.slice A k c] 149)::(H1++Fr))) (((ax.alloc (.cells ps 234)).bP _).p) (ag.ai0 (n:=1) (size:=3) (by simp) (by rfl) (by simp[maxLen])) (by simp[Value.oneCell']) (by simp[maxLen];omega) (by omega) ?_;intro A' c3 w' H' jT bC bV;refine hK _ _ (HS.o _ _ bC (by simp)) (fun _=>?_);clear hK K hs;rename_i hs;refine qL 10 11 ?_;refine Zl 12 fun K hK=>?_;go_simp;refine hK _ _ ?_;clear hK K hs;refine Ze ?_;have iu:ybR [.int .i64 1,.int .i64 0,.slice (some ⟨w1.heap.size,0,none⟩) m m] ⟨1,0,List.replicate m (false,false)⟩ [(w1.heap.size,.cells ps 234)]:=⟨w1.heap.size,m,by simp,by simpa using Zq.o w1.heap.size⟩;have u9:=Jp.o (.slice A' (k+1) c3) H' _ _ _ rfl iu jT;have e9:vE k m++[⟨1,0,List.replicate m (false,false)⟩]=vE (k+1) m:=by unfold vE;rw[List.replicate_succ']
   rw[e9]at u9;have bz:Holds (w'.setCell ⟨w.heap.size,0,none⟩ (.slice A' (k+1) c3)) ((w.heap.size,.cells #[.slice A' (k+1) c3] 149)::((H'++(H1++[(w1.heap.size,.cells ps 234)]))++Fr)):=
    Holds.set (cs:=#[.slice A k c]) (bC.p) 0 _
   have dN:Va w.heap.size n m w Fr (.int .i64 ((k:Int)+1)) (w'.setCell ⟨w.heap.size,0,none⟩ (.slice A' (k+1) c3)):=
    ⟨k+1,A',c3,_,by omega,by go_num,u9,bz,(((gY.alloc _).alloc _).trans bV).setCell _ _⟩
   have fj:=aa dN;clear dN bz u9 iu jT bC ax gY bV;go_wp2_with fail
   exact⟨fj.o,by simp[intOf];omega⟩
  ·obtain rfl:k=n:=by omega
   go_wp2_with fail
   go_ret;refine⟨_,_,rfl,⟨w.heap.size,_,_,rfl,?_,by simp[vE];omega,HR.o,rfl⟩,by simpa using eh,gf⟩;intro x hx;have:=ow (show x∈List.replicate k _ from hx);rw[this];exact⟨by show(0:Int)<=0;omega,by show(0:Int)<=8;omega,by simp;omega,by show(0:Int)<=1∧(1:Int)<=100;omega⟩
def ME(v:Value)(zs:List Int)(Fr:HL):Prop:=∀w,Holds w Fr->sF w v zs
def CB.new(P Z:Nat)(mark:Bool):CB:=⟨gQ P Z,0,0,false,mark⟩
def CM.new(B P Z:Nat)(marks:List Int)(ms:List Mi):CM:=⟨P,Z,(List.range B).map fun k:Nat=>CB.new P Z (marks.contains (k:Int)),ms,true,0,0,0⟩
theorem CM.adJ(B P Z:Nat)(marks:List Int)(ms:List Mi)(Im:1<=B)(hB:B<=32)(WD:1<=P)(hP:P<=8)(LL:128<=Z)(hZ:Z<=256)(hm:ms.length<=24)(hmo:∀m∈ms,m.ok):(CM.new B P Z marks ms).ok:=by
 refine⟨WD,hP,LL,hZ,by simpa[CM.new]using Im,by simpa[CM.new]using hB,hm,hmo,bG _,bG _,bG _,bG _,bG _,fun x hx=>?_⟩;obtain⟨k,_,rfl⟩:=List.mem_map.1 hx;refine⟨by simp[CB.new,gQ,CM.new],fun p hp=>?_,bG _,by show(0:Int)<=(P:Int);omega,bG _,bG _⟩;rw[ow hp];simp[jw,CM.new]
theorem td(l:List Int)(k:Nat)(hk:k<l.length)(i:Int):(l.take (k+1)).contains i=((l.take k).contains i||decide (i=l[k])):=by
 rw[gB hk,List.contains_append];simp[List.contains_eq_any_beq]
theorem VK(B P Z:Nat)(marks:List Int)(ms:List Mi)(j i:Nat)(hj:j<marks.length)(hi:i<B)(hm:marks[j]=(i:Int)):
  (CM.new B P Z (marks.take j) ms).db i {CB.new P Z ((marks.take j).contains (i:Int))with mark:=true}=CM.new B P Z (marks.take (j+1)) ms:=by
 unfold CM.new CM.db;simp only[CM.mk.injEq,and_true,true_and];apply List.ext_getElem?;intro k;rw[List.getElem?_set];by_cases h:i=k
 ·subst h;rw[if_pos rfl,if_pos (by simpa using hi),dW,pf hi,kt,td marks j hj,hm,decide_eq_true rfl,Bool.or_true];rfl
 ·rw[if_neg h,dW,dW];by_cases hk:k<B
  ·have ei:¬((k:Int)=marks[j]):=by rw[hm];omega
   rw[pf hk,kt,kt,td marks j hj,decide_eq_false ei,Bool.or_false]
  ·rw[List.getElem?_eq_none (by simp;omega)];rfl
def aag(cb B P Z:Nat)(mv:Value)(R:HL)(w:World)(iv:Value)(wr:World):Prop:=
 ∃(k:Nat) (A:Option Addr) (c:Nat) (Hb:HL),k<=B∧iv=.int .i64 k∧eK cbR 98 5 (.slice A k c) (List.replicate k (CB.new P Z false)) Hb∧
  Holds wr ((cb,.cells #[.int .i64 (B:Int),.int .i64 (P:Int),.int .i64 (Z:Int),.slice A k c,mv,.bool true,.int .i64 0,.int .i64 0,.int .i64 0] 94)::(Hb++R))∧af w wr
def aah(cb g cap B P Z:Nat)(mv:Value)(marks:List Int)(ms:List Mi)(F:HL)(w:World)(iv:Value)(wr:World):Prop:=
 ∃(j:Nat) (H:HL),j<=marks.length∧iv=.int .i64 j∧ai cb g cap mv (CM.new B P Z (marks.take j) ms) H∧Holds wr (H++F)∧af w wr∧∀x∈marks.take j,0<=x∧x<(B:Int)
theorem VL(B P Z:Nat)(kv mv:Value)(marks:List Int)(ms:List Mi)(w:World)(Fr:HL)(hH:Holds w Fr)(hk:ME kv marks Fr)(LQ:F9 Fr mv ms)
  (oX:∀(wx:World) (F:HL),Holds wx (F++Fr)->Calls Tryz.prog 39 #[mv] wx (cM (.bool true) wx (F++Fr)))
  (Im:1<=B)(hB:B<=32)(WD:1<=P)(hP:P<=8)(LL:128<=Z)(hZ:Z<=256)(tT:ms.length<=24)(hmo:∀m∈ms,m.ok):
  Calls Tryz.prog 10 #[.agg #[.int .i64 (B:Int),.int .i64 (P:Int),.int .i64 (Z:Int)],kv,mv] w (fun e w'=>((∀x∈marks,0<=x∧x<(B:Int))∧cB (fun v H=>MB v (CM.new B P Z marks ms) H) w Fr e w')∨((¬∀x∈marks,0<=x∧x<(B:Int))∧cM (.pointer none) w Fr e w')):=by
 have HK:=aa hk;have HMS:=aa LQ;have anx:=aa oX;have HMO:=aa hmo;have rQ:=hk w hH;have Dn:=ag.le rQ;unfold maxLen at Dn;obtain⟨_,Ak,ck,rfl,_,_,_⟩:=rQ;have bM:=hH.alloc (.cells #[.int .i64 (B:Int),.int .i64 (P:Int),.int .i64 (Z:Int)] 31);have cJ:=(af.refl w).alloc (.cells #[.int .i64 (B:Int),.int .i64 (P:Int),.int .i64 (Z:Int)] 31);have HG:=aa (fun(wx:World) (HH:HL) (h:Holds wx HH) (hm:(w.heap.size,Obj.cells #[.int .i64 (B:Int),.int .i64 (P:Int),.int .i64 (Z:Int)] 31)∈HH)=>
  show wx.cell? ⟨w.heap.size,0,none⟩=some (.int .i64 (B:Int))∧wx.cell? ⟨w.heap.size,1,none⟩=some (.int .i64 (P:Int))∧wx.cell? ⟨w.heap.size,2,none⟩=some (.int .i64 (Z:Int))from⟨h.cell hm 0,h.cell hm 1,h.cell hm 2⟩)
 clear hk LQ oX hmo hH;obtain⟨x0,x1,x2⟩:=HG.o _ _ bM (by simp);have zI:=aa (show decide ((1:Int)<=(B:Int)∧(B:Int)<=32)=true from decide_eq_true (by omega));have Lr:=aa (show decide ((1:Int)<=(P:Int)∧(P:Int)<=8)=true from decide_eq_true (by omega));have ZF:=aa (show decide ((128:Int)<=(Z:Int)∧(Z:Int)<=256)=true from decide_eq_true (by omega));go_enter func10,ntmps10;go_wp2_with fail
 refine(gI _ _ _ _).mono ?_;rintro e wx⟨rfl,rfl⟩;rw[zI.o];go_wp2_with fail
 refine(gI _ _ _ _).mono ?_;rintro e wx⟨rfl,rfl⟩;rw[Lr.o];go_wp2_with fail
 refine(gI _ _ _ _).mono ?_;rintro e wx⟨rfl,rfl⟩;rw[ZF.o];go_wp2_with fail
 refine(anx.o _ [_] bM).mono ?_;rintro e w1⟨rfl,ax,aK⟩;clear x0 x1 x2;have gY:=cJ.trans aK;go_upto_region 3 with fail
 generalize w.heap.size=t at*;refine aF (fun wx=>wx.cell? ⟨t,0,none⟩=some (.int .i64 (B:Int))∧wx.cell? ⟨t,1,none⟩=some (.int .i64 (P:Int))∧wx.cell? ⟨t,2,none⟩=some (.int .i64 (Z:Int))) 6 (by kernel_rfl) (fun w1 hd=>HG.o _ _ (ax.dr hd) (by simp)) (fun w1 hd hs=>?_);have aB:=ax.dr hd;have cY:=gY.trans (af.dr hd);clear hd ax gY aK bM cJ;refine qL 0 1 ?_;refine Zm 2 fun K hK=>?_;go_simp;refine(KA mv ms w1 _ (HMS.o w1 aB.tail) aB (by omega)).mono ?_;rintro e w3 ⟨v3,Hm,rfl,Sv,aD,bj⟩;obtain⟨_,A3,q3,kS,_,_,_⟩:=au.reads Sv aD;subst kS;refine hK _ _ (HG.o _ _ aD (by simp)) (fun _=>?_);clear hK K hs;rename_i hs;refine ji 3 ?_;refine Zm 4 fun K hK=>?_;go_simp;refine hK _ _ (HG.o _ _ (aD.alloc _) (by simp)) (fun _=>?_);clear hK K hs;rename_i hs;refine ji 5 ?_;refine Ze ?_;have aU:=aD.alloc (.cells #[.int .i64 (B:Int),.int .i64 (P:Int),.int .i64 (Z:Int),.slice none 0 0,.slice A3 ms.length q3,.bool true,.int .i64 0,.int .i64 0,.int .i64 0] 94);have bI:=(cY.trans bj).alloc (.cells #[.int .i64 (B:Int),.int .i64 (P:Int),.int .i64 (Z:Int),.slice none 0 0,.slice A3 ms.length q3,.bool true,.int .i64 0,.int .i64 0,.int .i64 0] 94);have Tb:=aa Sv;clear aB aD cY bj Sv;generalize w3.alloc (.cells #[.int .i64 (B:Int),.int .i64 (P:Int),.int .i64 (Z:Int),.slice none 0 0,.slice A3 ms.length q3,.bool true,.int .i64 0,.int .i64 0,.int .i64 0] 94)=w4 at*;generalize w3.heap.size=cb at*;obtain⟨x0,x1,x2⟩:=HG.o _ _ aU (by simp);go_wp2_with fail
 go_loopw [38] (fun iv wr=>aag cb B P Z (.slice A3 ms.length q3) (Hm++((t,.cells #[.int .i64 (B:Int),.int .i64 (P:Int),.int .i64 (Z:Int)] 31)::Fr)) w iv wr) (fun iv _=>B-(intOf iv).toNat)
 case atStart=>exact⟨0,none,0,[],by omega,rfl,eK.nil _ _ _,aU,bI⟩
 case round=>
  obtain⟨k,A,c,Hb,hk,rfl,hr,eh,gf⟩:=hrel;clear aU bI x0 x1 x2;by_cases aG:k<B
  ·obtain⟨cells,H0,H1,rfl,ay,_,F8⟩:=hr.Gv;simp only[gV]at ay F8;have jm:=aa ay;have Jp:=aa F8;have HS:=aa (fun(wx:World) (HH:HL) (hx:Holds wx HH) (hm:(cb,Obj.cells #[.int .i64 (B:Int),.int .i64 (P:Int),.int .i64 (Z:Int),.slice A k c,.slice A3 ms.length q3,.bool true,.int .i64 0,.int .i64 0,.int .i64 0] 94)∈HH)=>aS (hx.cell hm 3) (hx.frozen hm 3));clear ay F8 hr;go_upto_region 6 with fail
   refine aF (fun wx=>wx.cell? ⟨cb,3,none⟩=some (.slice A k c)∧wx.frozen? ⟨cb,3,none⟩=false) 12 (by kernel_rfl) (fun w1 hd=>HS.o _ _ (eh.dr hd) (by simp)) (fun w1 hd hs=>?_);have ax:=eh.dr hd;have gY:=gf.trans (af.dr hd);clear hd eh gf;refine dY 0 1 2 3 ?_;refine qL 4 5 ?_;refine Zm 6 fun K hK=>?_;go_simp;refine(CA cb P Z w1 _ ax (fun wx hx=>⟨by simpa using hx.ae 1,by simpa using hx.ae 2⟩) WD hP hZ).mono ?_;rintro e w5 ⟨v5,H5,rfl,zM,bg,dJ⟩;obtain⟨A5,q5,rfl,_,_⟩:=zM.val;refine hK _ _ (HS.o _ _ bg (by simp)) (fun _=>?_);clear hK K hs;rename_i hs;refine ji 7 ?_;refine Zm 8 fun K hK=>?_;go_simp;refine hK _ _ (HS.o _ _ (bg.alloc _) (by simp)) (fun _=>?_);clear hK K hs;rename_i hs;refine Zm 9 fun K hK=>?_;refine bf Vt (by rfl) _ _ (by rfl) (by rfl) (by rfl) jm.o (Fr:=H5++((cb,.cells #[.int .i64 (B:Int),.int .i64 (P:Int),.int .i64 (Z:Int),.slice A k c,.slice A3 ms.length q3,.bool true,.int .i64 0,.int .i64 0,.int .i64 0] 94)::(H1++(Hm++((t,.cells #[.int .i64 (B:Int),.int .i64 (P:Int),.int .i64 (Z:Int)] 31)::Fr))))) ((bg.bP _).p) (ag.many (n:=1) (size:=5) (by rfl) (by simp[maxLen])) (by simp[Value.oneCell']) (by simp[maxLen];omega) (by omega) ?_;intro A' c3 w' H' jT bC eJ;refine hK _ _ (HS.o _ _ bC (by simp)) (fun _=>?_);clear hK K hs;rename_i hs;refine qL 10 11 ?_;refine Zl 12 fun K hK=>?_;go_simp;refine hK _ _ ?_;clear hK K hs;refine Ze ?_;have bz:Holds (w'.setCell ⟨cb,3,none⟩ (.slice A' (k+1) c3)) ((cb,.cells #[.int .i64 (B:Int),.int .i64 (P:Int),.int .i64 (Z:Int),.slice A' (k+1) c3,.slice A3 ms.length q3,.bool true,.int .i64 0,.int .i64 0,.int .i64 0] 94)::((H'++(H1++H5))++(Hm++((t,.cells #[.int .i64 (B:Int),.int .i64 (P:Int),.int .i64 (Z:Int)] 31)::Fr)))):=
    Holds.set (cs:=#[.int .i64 (B:Int),.int .i64 (P:Int),.int .i64 (Z:Int),.slice A k c,.slice A3 ms.length q3,.bool true,.int .i64 0,.int .i64 0,.int .i64 0]) (bC.p) 3 _
   have UQ:=Jp.o (.slice A' (k+1) c3) H' _ (CB.new P Z false) H5 rfl ⟨_,rfl,zM⟩ jT;rw[<-List.replicate_succ']at UQ;have dN:aag cb B P Z (.slice A3 ms.length q3) (Hm++((t,.cells #[.int .i64 (B:Int),.int .i64 (P:Int),.int .i64 (Z:Int)] 31)::Fr)) w (.int .i64 ((k:Int)+1)) (w'.setCell ⟨cb,3,none⟩ (.slice A' (k+1) c3)):=
    ⟨k+1,A',c3,_,by omega,by go_num,UQ,bz,(((gY.trans dJ).alloc _).trans eJ).setCell _ _⟩
   have fj:=aa dN;clear dN bz UQ jT bC bg ax gY dJ eJ zM;go_wp2_with fail
   exact⟨fj.o,by simp[intOf];omega⟩
  ·obtain rfl:k=B:=by omega
   obtain⟨g,cap,_,_,_,hv,_⟩:=hr.sC (i:=0) (x:=CB.new P Z false) (by rw[qb,if_pos (by omega)]);injection hv with hv mg kS;subst hv kS;clear mg;have acf:(CM.new k P Z (marks.take 0) ms).blocks=List.replicate k (CB.new P Z false):=by
    show((List.range k).map fun i:Nat=>CB.new P Z ((marks.take 0).contains (i:Int)))=_;apply aaN
    ·simp
    ·intro i h1 h2;simp
   have aai:(CM.new k P Z (marks.take 0) ms).blocks.length=k:=by rw[acf];simp
   have hC:ai cb g c (.slice A3 ms.length q3) (CM.new k P Z (marks.take 0) ms) ((cb,k6 g c (.slice A3 ms.length q3) (CM.new k P Z (marks.take 0) ms))::(Hb++Hm)):=
    ⟨Hb,Hm,by rw[acf,gV];simpa using hr,Tb.o,CM.adJ k P Z _ ms Im hB WD hP LL hZ tT HMO.o,rfl⟩
   have SH:k6 g c (.slice A3 ms.length q3) (CM.new k P Z (marks.take 0) ms)=.cells #[.int .i64 (k:Int),.int .i64 (P:Int),.int .i64 (Z:Int),.slice (some ⟨g,0,none⟩) k c,.slice A3 ms.length q3,.bool true,.int .i64 0,.int .i64 0,.int .i64 0] 94:=by
    unfold k6;rw[aai];rfl
   have fy:Holds wr (((cb,k6 g c (.slice A3 ms.length q3) (CM.new k P Z (marks.take 0) ms))::(Hb++Hm))++((t,.cells #[.int .i64 (k:Int),.int .i64 (P:Int),.int .i64 (Z:Int)] 31)::Fr)):=by
    rw[SH];exact eh.p
   have HC:=aa hC;have HHC:=aa fy;clear hC fy SH aai acf hr eh;go_wp2_with fail
   go_loopw [9,55] (fun _ iv wr=>aah cb g c k P Z (.slice A3 ms.length q3) marks ms ((t,.cells #[.int .i64 (k:Int),.int .i64 (P:Int),.int .i64 (Z:Int)] 31)::Fr) w iv wr) (fun _ iv _=>marks.length-(intOf iv).toNat)
   case atStart=>exact⟨0,_,by omega,rfl,HC.o,HHC.o,gf,by simp⟩
   case round=>
    obtain⟨j,H,hj,rfl,ZG,FW,PT,iu⟩:=hrel;by_cases ZH:j<marks.length
    ·obtain⟨_,A9,c9,IY,_,_,acg⟩:=HK.o wr FW.right.tail;injection IY with gM mg kS;subst gM kS;clear mg;obtain⟨ba,oa,rfl,Lz⟩:=acg (by omega);have y0:=Lz j (.int .i64 marks[j]) (by simp[ZH]);by_cases yU:0<=marks[j]∧marks[j]<(k:Int)
     ·obtain⟨tI,xC⟩:=yU;have Qb:∀x∈marks.take (j+1),0<=x∧x<(k:Int):=by
       intro x hx;rw[gB ZH]at hx;rcases List.mem_append.1 hx with h|h
       ·exact iu x h
       ·rw[List.mem_singleton.1 h];exact⟨tI,xC⟩
      obtain⟨i,hi⟩:=Int.eq_ofNat_of_zero_le tI;have hmj:=aa hi;have hik:i<k:=by omega
      obtain⟨x0,x1,x2⟩:=HG.o wr _ FW (by simp);have hbk:(CM.new k P Z (marks.take j) ms).blocks[i]?=some (CB.new P Z ((marks.take j).contains (i:Int))):=by
       show((List.range k).map fun i:Nat=>CB.new P Z ((marks.take j).contains (i:Int)))[i]?=_;rw[dW,pf hik];rfl
      obtain⟨pv,hB⟩:=ZG.open_ hbk;obtain⟨H',DE,gK⟩:=hB.P5 wr _ true FW;rw[VK k P Z marks ms j i ZH hik hi]at DE;have jq:(CM.new k P Z (marks.take j) ms).blocks.length=k:=by simp[CM.new]
      have d3:=(ZG.gX FW).2.2.2.1;have og:=ZG.Bl;rw[jq]at d3 og;unfold maxLen at og;obtain⟨_,_,_,_,d4,_,_,_,_,f4⟩:=hB.cells wr _ FW;rw[hi]at y0;have vm:=aa (show decide ((0:Int)<=(i:Int)∧(i:Int)<=(k:Int)-1)=true from decide_eq_true (by omega));have dN:aah cb g c k P Z (.slice A3 ms.length q3) marks ms ((t,.cells #[.int .i64 (k:Int),.int .i64 (P:Int),.int .i64 (Z:Int)] 31)::Fr) w (.int .i64 ((j:Int)+1)) (wr.setCell ⟨g,i*5+4,none⟩ (.bool true)):=
       ⟨j+1,H',by omega,by go_num,DE,gK,PT.setCell _ _,Qb⟩
      have fj:=aa dN;clear dN Qb iu DE gK hB hbk jq ZG FW PT Lz acg hi tI xC;go_wp2_with fail
      refine(gI _ _ _ _).mono ?_;rintro e wx⟨rfl,rfl⟩;rw[vm.o];go_wp2_with fail
      exact⟨fj.o,by simp[intOf];omega⟩
     ·have vm:=aa (show decide ((0:Int)<=marks[j]∧marks[j]<=(k:Int)-1)=false from decide_eq_false (by omega));have P4:¬∀x∈marks,0<=x∧x<(k:Int):=fun h=>yU (h _ (cX ZH));obtain⟨x0,x1,x2⟩:=HG.o wr _ FW (by simp);have anz:=aa P4;have hHf:=Holds.DD (B:=[_]) FW;clear P4 yU ZG Lz acg iu;generalize marks[j]=mk at*;go_wp2_with fail
      refine(gI _ _ _ _).mono ?_;rintro e wx⟨rfl,rfl⟩;rw[vm.o];go_wp2_with fail
      go_ret;exact aE ⟨anz.o,rfl,hHf.right,PT⟩
    ·obtain rfl:j=marks.length:=by omega
     rw[fB]at ZG iu;have Am:=aa iu;clear iu;have sc:=aa ZG;clear ZG;go_wp2_with fail
     go_ret;exact aQ ⟨Am.o,_,H,rfl,⟨cb,g,c,_,rfl,sc.o⟩,Holds.DD (B:=[_]) FW,PT⟩
theorem yG(B P Z:Nat)(kv mv:Value)(marks:List Int)(ms:List Mi)(w:World)(Fr:HL)(hH:Holds w Fr)(hk:ME kv marks Fr)(LQ:F9 Fr mv ms)
  (oX:∀(wx:World) (F:HL),Holds wx (F++Fr)->Calls Tryz.prog 39 #[mv] wx (cM (.bool true) wx (F++Fr)))
  (Im:1<=B)(hB:B<=32)(WD:1<=P)(hP:P<=8)(LL:128<=Z)(hZ:Z<=256)(tT:ms.length<=24)(hmo:∀m∈ms,m.ok)(iu:∀x∈marks,0<=x∧x<(B:Int)):
  Calls Tryz.prog 10 #[.agg #[.int .i64 (B:Int),.int .i64 (P:Int),.int .i64 (Z:Int)],kv,mv] w (cB (fun v H=>MB v (CM.new B P Z marks ms) H) w Fr):=
 (VL B P Z kv mv marks ms w Fr hH hk LQ oX Im hB WD hP LL hZ tT hmo).mono fun e w' h=>h.elim (fun h=>h.2) fun h=>absurd iu h.1
end Go.Proofs.YtalnifciidblkaaGreatDoor
