/-
  Lemmas.
-/
import Derived.Test.YtalnifciidblkaaGreatDoorG00
import Derived.Deep.DeepCutAuto
namespace Go.Proofs.YtalnifciidblkaaGreatDoor
open _root_.Go.Proofs.Tryz
open Go.RowKit
set_option linter.unusedSimpArgs false
set_option linter.unusedVariables false
set_option maxRecDepth 20000
theorem Vy:rP Tryz.prog 147 152 3 40 (.agg #[.int .i64 0,.int .i64 0,.slice none 0 0]):=rP.mk' (by kernel_rfl) (by kernel_rfl) (by rfl) (by decide)
theorem YG:rP Tryz.prog 150 234 2 2 (.agg #[.bool false,.bool false]):=rP.mk' (by kernel_rfl) (by kernel_rfl) (by rfl) (by decide)
structure YB where
 state:Int
 taken:Int
 ad:List (Bool×Bool)
def gu(p:Bool×Bool):List Value:=[.bool p.1,.bool p.2]
def ybR(c:List Value)(x:YB)(H:HL):Prop:=∃g cap,c=[.int .i64 x.state,.int .i64 x.taken,.slice (some ⟨g,0,none⟩) x.ad.length cap]∧au 234 2 (.slice (some ⟨g,0,none⟩) x.ad.length cap) x.ad.length (x.ad.map gu).flatten H
def YB.ok(x:YB):Prop:=0<=x.taken∧x.taken<=8∧x.ad.length<=8∧adt x.state
where adt (n:Int):Prop:=0<=n∧n<=100
def dw(v:Value)(y:List YB)(H:HL):Prop:=
 ∃b bv Hm,v=.pointer (some ⟨b,0,none⟩)∧(∀x∈y,x.ok)∧y.length<=32∧eK ybR 152 3 bv y Hm∧H=(b,.cells #[bv] 149)::Hm
theorem dw.ptr{v:Value}{y:List YB}{H:HL}(h:dw v y H):∃b,v=.pointer (some ⟨b,0,none⟩):=by
 obtain⟨b,_,_,h,_⟩:=h;exact⟨b,h⟩
theorem dw.small{v:Value}{y:List YB}{H:HL}(h:dw v y H):y.length<=32∧∀x∈y,x.ok:=by
 obtain⟨_,_,_,_,h1,h2,_⟩:=h;exact⟨h2,h1⟩
theorem dw.view{v:Value}{y:List YB}{H:HL}(h:dw v y H):∃b A c,v=.pointer (some ⟨b,0,none⟩)∧y.length<=c∧c<=maxLen∧
  ∀(w:World) (F:HL),Holds w (H++F)->w.cell? ⟨b,0,none⟩=some (.slice A y.length c):=by
 obtain⟨b,bv,Hm,rfl,_,_,hr,rfl⟩:=h;obtain⟨A,c,rfl,hl,hc⟩:=hr.val;exact⟨b,A,c,rfl,hl,hc,fun w F hH=>hH.ae 0⟩
theorem dw.open_{v:Value}{y:List YB}{H:HL}(h:dw v y H){k:Nat}{x:YB}(hx:y[k]?=some x):
  ∃b g cap gp cp,v=.pointer (some ⟨b,0,none⟩)∧y.length<=cap∧cap<=maxLen∧k<y.length∧x.ok∧
   (∀(w:World) (F:HL),Holds w (H++F)->w.cell? ⟨b,0,none⟩=some (.slice (some ⟨g,0,none⟩) y.length cap)∧w.cell? ⟨g,k*3,none⟩=some (.int .i64 x.state)∧w.cell? ⟨g,k*3+1,none⟩=some (.int .i64 x.taken)∧
    w.cell? ⟨g,k*3+2,none⟩=some (.slice (some ⟨gp,0,none⟩) x.ad.length cp)∧w.frozen? ⟨g,k*3,none⟩=false∧w.frozen? ⟨g,k*3+1,none⟩=false∧
    ag w 2 (.slice (some ⟨gp,0,none⟩) x.ad.length cp) x.ad.length (x.ad.map gu).flatten)∧
   (∀(w:World) (F:HL) (u:Int),Holds w (H++F)->({x with state:=u}:YB).ok->∃H',dw v (y.set k {x with state:=u}) H'∧Holds (w.setCell ⟨g,k*3,none⟩ (.int .i64 u)) (H'++F))∧
   (∀(w:World) (F:HL) (u:Int),Holds w (H++F)->({x with taken:=u}:YB).ok->∃H',dw v (y.set k {x with taken:=u}) H'∧Holds (w.setCell ⟨g,k*3+1,none⟩ (.int .i64 u)) (H'++F))∧
   (∀(i:Nat),i<x.ad.length->∀(w:World) (F:HL),Holds w (H++F)->w.frozen? ⟨gp,i*2,none⟩=false∧w.frozen? ⟨gp,i*2+1,none⟩=false∧
    (∀u:Bool×Bool,∃H',dw v (y.set k {x with ad:=x.ad.set i u}) H'∧Holds ((w.setCell ⟨gp,i*2,none⟩ (.bool u.1)).setCell ⟨gp,i*2+1,none⟩ (.bool u.2)) (H'++F))∧
    (∀u:Bool,∃H',dw v (y.set k {x with ad:=x.ad.set i ((x.ad.getD i (false,false)).1,u)}) H'∧Holds (w.setCell ⟨gp,i*2+1,none⟩ (.bool u)) (H'++F)))∧
   (∀(w:World) (F:HL) (u t:Int),Holds w (H++F)->({x with state:=u,taken:=t}:YB).ok->(w.setCell ⟨g,k*3,none⟩ (.int .i64 u)).frozen? ⟨g,k*3+1,none⟩=false∧(w.setCell ⟨g,k*3,none⟩ (.int .i64 u)).cell? ⟨g,k*3+1,none⟩=some (.int .i64 x.taken)∧
    ∃H',dw v (y.set k {x with state:=u,taken:=t}) H'∧Holds ((w.setCell ⟨g,k*3,none⟩ (.int .i64 u)).setCell ⟨g,k*3+1,none⟩ (.int .i64 t)) (H'++F)):=by
 obtain⟨b,bv,Hm,rfl,cj,hlen,hr,rfl⟩:=h;obtain⟨g,cap,c,Hi,Hr,rfl,ff,gT,hk,bm,⟨gp,cp,rfl,ay⟩,ae,fg,qi,bz⟩:=hr.sC hx;have o9:=cj x (gD hx);have aaL:∀(w:World) (F:HL),Holds w (((b,Obj.cells #[.slice (some ⟨g,0,none⟩) y.length cap] 149)::Hm)++F)->Holds w (Hi++(Hr++((b,.cells #[.slice (some ⟨g,0,none⟩) y.length cap] 149)::F))):=by
  intro w F hH;refine fg w _ ?_;exact Holds.swap (A:=[(b,Obj.cells #[.slice (some ⟨g,0,none⟩) y.length cap] 149)]) (B:=Hm) (by simpa using hH)
 have Jy:∀(w:World) (F:HL) (y':List YB) (H':HL),y'.length=y.length->(∀x∈y',x.ok)->eK ybR 152 3 (.slice (some ⟨g,0,none⟩) y.length cap) y' H'->Holds w (H'++((b,.cells #[.slice (some ⟨g,0,none⟩) y.length cap] 149)::F))->
   ∃H2,dw (.pointer (some ⟨b,0,none⟩)) y' H2∧Holds w (H2++F):=by
  intro w F y' H' hl ho hr' gK;refine⟨(b,.cells #[.slice (some ⟨g,0,none⟩) y.length cap] 149)::H',⟨b,_,H',rfl,ho,by omega,hr',rfl⟩,?_⟩;have:=Holds.swap (A:=H') (B:=[(b,Obj.cells #[.slice (some ⟨g,0,none⟩) y.length cap] 149)]) (C:=F) (by simpa using gK);simpa using this
 have BW:∀x':YB,x'.ok->∀z∈y.set k x',z.ok:=by
  intro x' qN z hz;rcases vM hz with h|h
  ·exact cj z h
  ·rw[h];exact qN
 refine⟨b,g,cap,gp,cp,rfl,ff,gT,hk,o9,?_,?_,?_,?_,?_⟩
 ·intro w F hH;have h1:=aaL w F hH;have h2:=(ae w _ h1.right).2;have e0:=h2 0 (by omega);have e1:=h2 1 (by omega);have e2:=h2 2 (by omega);exact⟨hH.ae 0,by simpa using e0.1,by simpa using e1.1,by simpa using e2.1,by simpa using e0.2,e1.2,ay.reads h1⟩
 ·intro w F u hH hou;obtain⟨H',h3,h4⟩:=bz w _ 0 (.int .i64 u) {x with state:=u} Hi (by omega) ⟨gp,cp,rfl,ay⟩ (aaL w F hH);obtain⟨H2,h5,h6⟩:=Jy _ F _ H' (by simp) (BW _ hou) h3 h4;exact⟨H2,h5,by simpa using h6⟩
 ·intro w F u hH hou;obtain⟨H',h3,h4⟩:=bz w _ 1 (.int .i64 u) {x with taken:=u} Hi (by omega) ⟨gp,cp,rfl,ay⟩ (aaL w F hH);obtain⟨H2,h5,h6⟩:=Jy _ F _ H' (by simp) (BW _ hou) h3 h4;exact⟨H2,h5,h6⟩
 ·intro i hi w F hH;have h1:=aaL w F hH;have PJ:(x.ad.map gu).flatten.length=x.ad.length*2:=by
   have:=kB (size:=2) (x.ad.map gu) (by intro z hz;obtain⟨a,_,rfl⟩:=List.mem_map.1 hz;rfl);simpa using this
  have Sw:∀c∈x.ad.map gu,c.length=2:=by intro z hz;obtain⟨a,_,rfl⟩:=List.mem_map.1 hz;rfl
  have Oa:(x.ad.map gu)[i]?=some (gu x.ad[i]):=by simp[hi]
  have aiZ:∀u:Bool,(x.ad.map gu).flatten.set (i*2) (.bool u)=((x.ad.set i (u,x.ad[i].2)).map gu).flatten:=by
   intro u;have:=nc (size:=2) (x.ad.map gu) Sw i 0 (gu x.ad[i]) (.bool u) Oa (by omega);rw[fD]at this;rw[this,List.map_set];rfl
  have BO:∀u:Bool,(x.ad.map gu).flatten.set (i*2+1) (.bool u)=((x.ad.set i (x.ad[i].1,u)).map gu).flatten:=by
   intro u;have:=nc (size:=2) (x.ad.map gu) Sw i 1 (gu x.ad[i]) (.bool u) Oa (by omega);rw[this,List.map_set];rfl
  have nj:x.ad.getD i (false,false)=x.ad[i]:=by simp[List.getD,hi]
  obtain⟨g0,agS,zK,_,_,_,_,Og,Th⟩:=ay.cell h1 (j:=i*2) (by omega);injection zK with zK _ jQ;injection zK with zK;injection zK with zK;subst zK;obtain⟨g1,auD,gM,_,_,_,_,hf1,kU⟩:=ay.cell h1 (j:=i*2+1) (by omega);injection gM with gM _ auE;injection gM with gM;injection gM with gM;subst gM;refine⟨Og,hf1,fun u=>?_,fun u=>?_⟩
  ·obtain⟨Ha,ha,fU⟩:=Th w _ h1 (.bool u.1);rw[aiZ]at ha;have ik:(x.ad.set i (u.1,x.ad[i].2)).length=x.ad.length:=by simp
   have auF:((x.ad.set i (u.1,x.ad[i].2)).map gu).flatten.length=x.ad.length*2:=by
    have:=kB (size:=2) ((x.ad.set i (u.1,x.ad[i].2)).map gu) (by intro z hz;obtain⟨a,_,rfl⟩:=List.mem_map.1 hz;rfl);simpa using this
   obtain⟨g2,agT,mg,_,_,_,_,_,tg⟩:=ha.cell fU (j:=i*2+1) (by omega);injection mg with mg _ auG;injection mg with mg;injection mg with mg;subst mg;obtain⟨Hb,hb,lY⟩:=tg _ _ fU (.bool u.2);have UI:((x.ad.set i (u.1,x.ad[i].2)).map gu).flatten.set (i*2+1) (.bool u.2)=((x.ad.set i u).map gu).flatten:=by
    have:=nc (size:=2) ((x.ad.set i (u.1,x.ad[i].2)).map gu) (by intro z hz;obtain⟨a,_,rfl⟩:=List.mem_map.1 hz;rfl) i 1 (gu (u.1,x.ad[i].2)) (.bool u.2) (by simp[hi]) (by omega);rw[this];simp only[List.map_set,List.set_set];rfl
   rw[UI]at hb;obtain⟨H',h3,h4⟩:=qi _ _ {x with ad:=x.ad.set i u} Hb ⟨gp,cp,by simp,by simpa using hb⟩ lY;exact Jy _ F _ H' (by simp) (BW _ ⟨o9.1,o9.2.1,by simpa using o9.2.2.1,o9.2.2.2⟩) h3 h4
  ·obtain⟨Hb,hb,lY⟩:=kU w _ h1 (.bool u);rw[BO]at hb;rw[nj];obtain⟨H',h3,h4⟩:=qi _ _ {x with ad:=x.ad.set i (x.ad[i].1,u)} Hb ⟨gp,cp,by simp,by simpa using hb⟩ lY;exact Jy _ F _ H' (by simp) (BW _ ⟨o9.1,o9.2.1,by simpa using o9.2.2.1,o9.2.2.2⟩) h3 h4
 ·intro w F u t hH hou;obtain⟨H',h3,h4⟩:=bz w _ 0 (.int .i64 u) {x with state:=u} Hi (by omega) ⟨gp,cp,rfl,ay⟩ (aaL w F hH);have th:(y.set k {x with state:=u})[k]?=some {x with state:=u}:=by simp[hk]
  obtain⟨g2,agT,c2,Hi2,Hr2,mg,_,_,_,_,⟨gp2,cp2,rfl,jT⟩,Gw,adu,_,UI⟩:=h3.sC th;injection mg with mg _ LH;injection mg with mg;injection mg with mg;subst mg;have h5:=adu _ _ h4;have h6:=(Gw _ _ h5.right).2 1 (by omega);obtain⟨H2,h7,h8⟩:=UI _ _ 1 (.int .i64 t) {x with state:=u,taken:=t} Hi2 (by omega) ⟨gp2,cp2,rfl,jT⟩ h5;rw[List.set_set]at h7;obtain⟨H3,h9,Xe⟩:=Jy _ F _ H2 (by simp) (BW _ hou) (by simpa using h7) h8;refine⟨by simpa using h6.2,by simpa using h6.1,H3,h9,by simpa using Xe⟩
theorem iG(c:Int)(w:World)(Fr:HL)(hc:c≠0)(hH:Holds w Fr):Calls Tryz.prog 139 #[.int .i64 c] w (pR c w Fr):=by
 have DE:=aa hc;clear hc;go_enter func139,ntmps139;go_wp2
 go_ret;exact⟨_,_,rfl,.inr ⟨DE.o,w.heap.size,_,rfl,rfl⟩,hH.alloc _,(af.refl w).alloc _⟩
def wh(c:Int)(w:World)(Fr:HL)(e:Ending)(w':World):Prop:=∃ve H,e=.returned (.tuple #[.pointer none,ve])∧bJ ve c H∧Holds w' (H++Fr)∧af w w'
section
variable{v:Value}{y:List YB}{H Fr:HL}{w:World}
theorem xZ(b:Int)(h:dw v y H)(hH:Holds w (H++Fr))(hb:¬(0<=b∧b<(y.length:Int))):Calls Tryz.prog 138 #[v,.int .i64 b] w (wh 2 w (H++Fr)):=by
 obtain⟨p,A,c,rfl,hl,hc,Z9⟩:=h.view;have c0:=Z9 w Fr hH;unfold maxLen at hc;clear Z9 h;generalize H++Fr=F at*;generalize y.length=n at*;have W2:=aa (fun(w:World) hx=>iG 2 w F (by omega) hx);have HH:=aa hH;clear hH;have h2:b<0∨(¬b<0∧(n:Int)<=b):=by omega
 clear hb;rcases h2 with h2|⟨h2,h3⟩;all_goals
  go_enter func138,ntmps138;go_wp2_with fail
  refine(W2.o _ HH.o).mono ?_;rintro e w1⟨v1,H1,rfl,he,ax,aK⟩;have HE:=aa he;clear he;go_wp2_with fail
  go_ret2
  exact⟨_,H1,rfl,HE.o,ax,aK⟩
theorem qZ{p g cap n:Nat}(k:Nat)(w:World)(hk:k<n)(hn:n<=32)(og:n<=cap)(c0:w.cell? ⟨p,0,none⟩=some (.slice (some ⟨g,0,none⟩) n cap)):
  Calls Tryz.prog 138 #[.pointer (some ⟨p,0,none⟩),.int .i64 (k:Int)] w fun e w'=>e=.returned (.tuple #[.pointer (some ⟨g,k*3,none⟩),.nilIface])∧w=w':=by
 go_enter func138,ntmps138;go_wp2_with fail
 go_ret2
 exact⟨rfl,rfl⟩
def uu(y:List YB)(b:Int):Option YB:=if 0<=b∧b<(y.length:Int)then y[b.toNat]? else none
theorem iR{y:List YB}{b:Int}{x:YB}(h:uu y b=some x):∃k:Nat,b=(k:Int)∧k<y.length∧y[k]?=some x:=by
 unfold uu at h;split at h
 ·rename_i hb;obtain⟨k,rfl⟩:=Int.eq_ofNat_of_zero_le hb.1;exact⟨k,rfl,by omega,by simpa using h⟩
 ·cases h
theorem qp{y:List YB}{b:Int}(h:uu y b=none):¬(0<=b∧b<(y.length:Int)):=by
 intro hb;unfold uu at h;rw[if_pos hb]at h;obtain⟨k,rfl⟩:=Int.eq_ofNat_of_zero_le hb.1;have hk:k<y.length:=by omega
 simp[hk]at h
def lB(y:List YB)(b:Int)(x:YB):List YB:=y.set b.toNat x
def fX(y:List YB)(b:Int)(s t:Int):List YB×Int:=match uu y b with
 |none=>(y,2)
 |some x=>if x.state=s then(lB y b {x with state:=t},0)else(y,9)
def l8(y:List YB)(b:Int):List YB×Int:=match uu y b with
 |none=>(y,2)
 |some x=>if x.state=1 then(lB y b {x with state:=2,taken:=0},0)else(y,9)
end
theorem wh.lit{c:Int}{w w':World}{Fr:HL}{e:Ending}(hc:c≠0)(h:wh c w Fr e w'):
  ∃b s,e=.returned (.tuple #[.pointer none,.iface 141 (.pointer (some ⟨b,0,none⟩))])∧Holds w' ((b,.cells #[.int .i64 c,.string s] 143)::Fr)∧af w w':=by
 obtain⟨ve,H1,rfl,he,ax,aK⟩:=h;rcases he with⟨h0,_⟩|⟨_,b,s,rfl,rfl⟩
 ·exact absurd h0 hc
 ·exact⟨b,s,rfl,ax,aK⟩
theorem dO{c:Int}(hc:c≠0)(b:Nat)(s:ByteArray):bJ (.iface 141 (.pointer (some ⟨b,0,none⟩))) c [(b,.cells #[.int .i64 c,.string s] 143)]:=.inr ⟨hc,b,s,rfl,rfl⟩
theorem pR.lit{c:Int}{w w':World}{Fr:HL}{e:Ending}(hc:c≠0)(h:pR c w Fr e w'):
  ∃b s,e=.returned (.iface 141 (.pointer (some ⟨b,0,none⟩)))∧Holds w' ((b,.cells #[.int .i64 c,.string s] 143)::Fr)∧af w w':=by
 obtain⟨ve,H1,rfl,he,ax,aK⟩:=h;rcases he with⟨h0,_⟩|⟨_,b,s,rfl,rfl⟩
 ·exact absurd h0 hc
 ·exact⟨b,s,rfl,ax,aK⟩
def uf(v:Value)(r:List YB×Int)(w:World)(Fr:HL)(e:Ending)(w':World):Prop:=∃ve H He,e=.returned ve∧bJ ve r.2 He∧dw v r.1 H∧Holds w' (H++(He++Fr))∧af w w'
theorem MS{y:List YB}{b s t:Int}(ha:uu y b=none):fX y b s t=(y,2):=by simp[fX,ha]
theorem Vz{y:List YB}{b s t:Int}{x:YB}(ha:uu y b=some x)(hs:x.state=s):fX y b s t=(lB y b {x with state:=t},0):=by simp[fX,ha,hs]
theorem VA{y:List YB}{b s t:Int}{x:YB}(ha:uu y b=some x)(hs:x.state≠s):fX y b s t=(y,9):=by simp[fX,ha,hs]
section
variable{v:Value}{y:List YB}{H Fr:HL}{w:World}
theorem EJ(b s t:Int)(h:dw v y H)(hH:Holds w (H++Fr))(ht:0<=t∧t<=100):Calls Tryz.prog 155 #[v,.int .i64 b,.int .i64 s,.int .i64 t] w (uf v (fX y b s t) w Fr):=by
 have HI:=aa h;cases ha:uu y b with
 |none=>
  rw[MS ha];have HN:=aa (xZ (w:=w) b h hH (qp ha));have ei:=cS;clear ha h;go_enter func155,ntmps155;go_wp2_with fail
  refine HN.o.mono fun e w1 hr=>?_;obtain⟨be,se,rfl,ax,aK⟩:=hr.lit (by decide);have rG:=aa ax;clear HN ax hr;go_wp2_with fail
  go_ret;exact⟨_,H,_,rfl,dO (c:=2) (by decide) be se,HI.o,Holds.swap (A:=[_]) rG.o,aK⟩
 |some x=>
  obtain⟨k,rfl,hk,hx⟩:=iR ha;have hy:=h.small.1;obtain⟨p,g,cap,gp,cp,rfl,ff,gT,_,o9,cg,bz,L8,Bp⟩:=h.open_ hx;obtain⟨c0,c1,c2,c3,f1,f2,cm⟩:=cg w Fr hH;clear L8 Bp cm;have HA:=aa (qZ k w hk hy ff c0);have qG:=cC;have HH:=aa hH;obtain⟨H',uv,PD⟩:=bz w Fr t hH ⟨o9.1,o9.2.1,o9.2.2.1,ht⟩;have HY:=aa uv;have Ti:=aa PD;have W9:=aa (fun(w:World) hx=>iG 9 w (H++Fr) (by omega) hx);clear hx cg h bz uv PD o9 hH;by_cases hs:x.state=s
  ·rw[Vz ha hs];subst hs;have e1:(x.state !=x.state)=false:=by simp
   clear ha;go_enter func155,ntmps155;go_wp2_with fail
   refine HA.o.mono ?_;rintro e w1⟨rfl,rfl⟩;clear HA;go_wp2_with fail
   go_ret;exact⟨_,H',[],rfl,bJ.none,HY.o,Ti.o,(af.refl w).setCell _ _⟩
  ·have e1:(x.state !=s)=true:=by simpa using hs
   rw[VA ha hs];have vo:=aa hs;clear hs ha;go_enter func155,ntmps155;go_wp2_with fail
   refine HA.o.mono ?_;rintro e w1⟨rfl,rfl⟩;clear HA;go_wp2_with fail
   refine(W9.o _ HH.o).mono fun e w1 hr=>?_;obtain⟨be,se,rfl,ax,aK⟩:=hr.lit (by decide);have rG:=aa ax;clear ax hr;go_wp2_with fail
   go_ret;exact⟨_,H,_,rfl,dO (c:=9) (by decide) be se,HI.o,Holds.swap (A:=[_]) rG.o,aK⟩
theorem QF(b:Int)(h:dw v y H)(hH:Holds w (H++Fr)):Calls Tryz.prog 87 #[v,.int .i64 b] w (uf v (fX y b 2 3) w Fr):=by
 have HT:=aa (EJ (w:=w) b 2 3 h hH (by omega));clear h hH;go_enter func87,ntmps87;go_wp2_with fail
 refine HT.o.mono ?_;rintro e w1⟨ve,H1,He,rfl,he,hy,ax,aK⟩;have HE:=aa (aS he hy);clear he hy HT;go_wp2_with fail
 go_ret;exact⟨_,H1,He,rfl,HE.o.1,HE.o.2,ax,aK⟩
theorem QG(b:Int)(h:dw v y H)(hH:Holds w (H++Fr)):Calls Tryz.prog 84 #[v,.int .i64 b] w (uf v (l8 y b) w Fr):=by
 have HT:=aa (EJ (w:=w) b 1 2 h hH (by omega));have qG:=cC;have ei:=cS;have tO:∀c:Int,c≠0->fX y b 1 2=(y,c)->l8 y b=(y,c)->Calls Tryz.prog 84 #[v,.int .i64 b] w (uf v (l8 y b) w Fr):=by
  intro c hc e1 e2;rw[e2];rw[e1]at HT;have HC:=aa hc;clear hc;clear h hH e1 e2;go_enter func84,ntmps84;go_wp2_with fail
  refine HT.o.mono ?_;rintro e w1⟨ve,H1,He,rfl,he,hy,ax,aK⟩;rcases he with⟨h0,_⟩|⟨_,be,se,rfl,rfl⟩
  ·exact absurd h0 HC.o
  ·have HY:=aa hy;clear hy HT;go_wp2_with fail
   go_ret;exact⟨_,H1,_,rfl,dO HC.o be se,HY.o,ax,aK⟩
 cases ha:uu y b with
 |none=>exact tO 2 (by decide) (by simp[fX,ha]) (by simp[l8,ha])
 |some x=>
  by_cases hs:x.state=1
  ·obtain⟨k,rfl,hk,hx⟩:=iR ha;have e1:fX y (k:Int) 1 2=(lB y k {x with state:=2},0):=by simp[fX,ha,hs]
   have e2:l8 y (k:Int)=(lB y k {x with state:=2,taken:=0},0):=by simp[l8,ha,hs]
   rw[e2];rw[e1]at HT;have hlen:=h.small.1;have o9:=(h.small.2 x (gD hx));clear tO h hH e1 e2 ha;go_enter func84,ntmps84;go_wp2_with fail
   refine HT.o.mono ?_;rintro e w1⟨ve,H1,He,rfl,he,hy,ax,aK⟩;obtain⟨rfl,rfl⟩:ve=.nilIface∧He=[]:=by
    rcases he with⟨_,h1,h2⟩|⟨h0,_⟩
    ·exact⟨h1,h2⟩
    ·exact absurd rfl h0
   have th:(lB y k {x with state:=2})[k]?=some {x with state:=2}:=by simp[lB,hk]
   obtain⟨p,g,cap,gp,cp,rfl,ff,gT,qO,ana,cg,Gc,bz,Bp⟩:=hy.open_ th;obtain⟨c0,c1,c2,c3,f1,f2,cm⟩:=cg w1 Fr ax;clear Gc Bp cm ana;obtain⟨H',uv,PD⟩:=bz w1 Fr 0 ax ⟨by show(0:Int)<=0;omega,by show(0:Int)<=8;omega,o9.2.2.1,by show(0:Int)<=2∧(2:Int)<=100;omega⟩;have e3:(lB y k {x with state:=2}).set k {({x with state:=2}:YB)with taken:=0}=lB y k {x with state:=2,taken:=0}:=by simp[lB]
   rw[e3]at uv;have HY:=aa uv;have Ti:=aa PD;have IE:(lB y k {x with state:=2}).length=y.length:=by simp[lB]
   rw[IE]at c0 ff;clear cg bz uv PD hx th hy ax e3 he IE HT o9;generalize y.length=n at*;go_wp2_with fail
   go_ret;exact⟨_,H',[],rfl,bJ.none,HY.o,Ti.o,aK.setCell _ _⟩
  ·exact tO 9 (by decide) (by simp[fX,ha,hs]) (by simp[l8,ha,hs])
end
end Go.Proofs.YtalnifciidblkaaGreatDoor
