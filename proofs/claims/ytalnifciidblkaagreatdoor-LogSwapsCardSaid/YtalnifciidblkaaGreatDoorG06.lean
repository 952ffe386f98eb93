/-
  Lemmas.
-/
import Derived.Test.YtalnifciidblkaaGreatDoorG08
import Derived.Test.YtalnifciidblkaaGreatDoorG10
import Derived.Test.YtalnifciidblkaaGreatDoorG31
import Derived.Test.YtalnifciidblkaaGreatDoorG02
import Derived.Test.YtalnifciidblkaaGreatDoorG13
namespace Go.Proofs.YtalnifciidblkaaGreatDoor
open _root_.Go.Proofs.Tryz
open Go.RowKit
set_option linter.unusedSimpArgs false
set_option linter.unusedVariables false
set_option maxRecDepth 20000
set_option maxHeartbeats 4000000
section
variable{b sb cb g cap:Nat}{mv:Value}{s:SM}{c:CM}{l:LM}{H Hs Hc Fr:HL}{w:World}
structure OY(Z:Nat)(nm:List UInt8)(es:List az)(is:List Nat)(dk:List kj)(Hp:HL):Prop where
 low:yZ nm
 lA:dd es
 len:es.length<=64
 il:is.length=dk.length
 d:∀j (h:j<dk.length) (h':j<is.length),bN Hp dk[j].DB (cW Z nm es is[j])∧is[j]<aM Z es.length
 asc:is.Pairwise (·<·)
 n20:dk.length<20
theorem qD{Z m:Nat}(hz:128<=Z)(h:m<=64):aM Z m<20:=by
 have he:5<=bA Z:=by unfold bA;omega
 have h1:m/bA Z<=12:=by
  have h2:m/bA Z<=m/5:=Nat.div_le_div_left he (by omega);omega
 unfold aM;split<;>omega
theorem OY.up{Z:Nat}{nm:List UInt8}{es:List az}{is:List Nat}{dk:List kj}{Hp F:HL}(h:OY Z nm es is dk Hp)(qH:128<=Z)(tW:Z<=256)(hF:∀w,Holds w F->Holds w Hp):OX F dk:=by
 intro i hi w G hw;obtain⟨d1,l1⟩:=h.d (i+1) hi (by rw[h.il];exact hi);obtain⟨d0,l0⟩:=h.d i (by omega) (by rw[h.il];omega);refine(Hj Z nm es _ _ _ _ w (G++F) (fun wx hx=>d1 wx (hF wx hx.right)) (fun wx hx=>d0 wx (hF wx hx.right)) hw h.low h.lA (by have:=h.len;omega) l1 l0 qH tW).mono ?_;rintro e w'⟨rfl,h1,h2⟩;refine⟨_,?_,rfl,h1,h2⟩;have:=List.pairwise_iff_getElem.1 h.asc i (i+1) (by rw[h.il];omega) (by rw[h.il];exact hi) (by omega);unfold lI;rw[if_neg (by omega),if_pos (by omega)];decide
theorem kO.data{kind gen:Int}{Hp:HL}{x:kj}(h:kO s c kind gen Hp x):bN Hp x.DB (Lv c x).d:=by
 obtain⟨n,d,h1,h2,h3,h4,_⟩:=h;have:(Lv c x).d=d:=by unfold Lv;rw[h1,Int.toNat_natCast,h3];rfl
 rw[this];exact h4
theorem NT{nm:List UInt8}{es:List az}{is:List Nat}{dk:List kj}{Hp:HL}{kind gen:Int}(hz:128<=s.Z)(hg:∀x∈dk,kO s c kind gen Hp x)(h:Vm s.Z (dk.map (Lv c)) nm es is):OY s.Z nm es is dk Hp:=by
 have hl:(dk.map (Lv c)).length=dk.length:=bY _;refine⟨h.low,h.lA,h.len,by rw[h.il,hl],fun j hj xF=>?_,h.asc,?_⟩
 ·obtain⟨h1,h2⟩:=h.d j (by rw[hl];exact hj) xF;rw[List.getElem_map]at h1;rw[<-h1];exact⟨(hg _ (cX hj)).data,h2⟩
 ·have h1:=h.few;have:=qD hz h.len;rw[hl]at h1;omega
theorem NU{nm:List UInt8}{gn q0 last aj:Int}{es:List az}{bK:List Nat}{nps:List NP}{dk:List kj}{Hp:HL}(hz:128<=s.Z)(I:iy s c nm gn es bK nps q0 last aj)(hg:∀x∈dk,kO s c 4 gn Hp x)(h:dk.map (Lv c)=EB s.Z nm gn es bK q0):
  OY s.Z nm es (List.range bK.length) dk Hp∧dk.length=aM s.Z es.length∧dk.map (·.n)=bK.map fun n:Nat=>(n:Int):=by
 have hl:dk.length=bK.length:=by have:=congrArg List.length h;unfold EB at this;simpa using this
 have bm:=I.kX.cl;have Jd:∀j (hj:j<dk.length),Lv c dk[j]=⟨bK.getD j 0,fh (q0+j) gn,cW s.Z nm es j⟩:=by
  intro j hj;have:=congrArg (fun l=>l[j]?) h;unfold EB at this;simp only[dW]at this;rw[bF hj,pf (by omega)]at this;simpa using this
 refine⟨⟨I.kX.low,I.kX.lA,I.kX.len,by rw[fP,hl],fun j hj xF=>?_,List.pairwise_lt_range,?_⟩,by omega,?_⟩
 ·rw[List.getElem_range];have:=(hg _ (cX hj)).data;rw[Jd j hj]at this;exact⟨this,by omega⟩
 ·have:=qD hz I.kX.len;omega
 ·refine aaN (by simp[hl]) fun j h1 h2=>?_;have hj:j<dk.length:=by simpa using h1
  rw[List.getElem_map,List.getElem_map];obtain⟨n,d,e,_⟩:=hg _ (cX hj);have h3:=congrArg SS.n (Jd j hj);have h4:(Lv c dk[j]).n=n:=by show dk[j].n.toNat=n;rw[e];rfl
  rw[h4]at h3;have h5:bK.getD j 0=bK[j]'(by omega):=by rw[jR,bF (by omega)];rfl
  rw[e,h3];show((bK.getD j 0:Nat):Int)=_;rw[h5]
def X9(ps:List kj)(w:World)(F:HL)(ov iv:Value)(wr:World):Prop:=
 ∃(k:Nat) (Ho:HL),k<=ps.length∧iv=.int .i64 k∧au 60 1 ov k ((ps.take k).map kj.DB) Ho∧Holds wr (Ho++F)∧af w wr
theorem FA{ps:List kj}{v:Value}{Ho F:HL}{ds:List (List UInt8)}(h:au 60 1 v ps.length (ps.map kj.DB) Ho)(hl:ds.length=ps.length)(hd:∀j (h1:j<ps.length) (h2:j<ds.length),bN F ps[j].DB ds[j]):ra (Ho++F) v ds:=by
 refine⟨ps.map kj.DB,by rw[bY,hl],fun w hw=>by rw[hl];exact h.reads hw,fun i h1 h2=>?_⟩;rw[List.getElem_map];exact(hd i (by simpa using h1) h2).right
end
section
variable{b sb cb g cap:Nat}{mv:Value}{s:SM}{c:CM}{l:LM}{H Hs Hc Fr:HL}{w:World}
def AM(cb g cap:Nat)(mv:Value)(c:CM)(w:World)(H Hs Fr:HL)(e:Ending)(w':World):Prop:=
 ∃(c':CM) (ve:Value) (He cO:HL),Reads c c'∧jx c c'∧c'.ops<=c.ops+256∧e=.returned (.tuple #[.bool false,ve])∧bJ ve 4 He∧ai cb g cap mv c' cO∧Holds w' (H++(Hs++(cO++(He++Fr))))∧af w w'
def Pp(cb g cap:Nat)(mv:Value)(c:CM)(w:World)(H Hs Fr:HL)(e:Ending)(w':World):Prop:=
 ∃(c':CM) (cO:HL),Reads c c'∧c'.on=true∧c'.ops<=c.ops+256∧e=.returned (.tuple #[.bool false,.nilIface])∧ai cb g cap mv c' cO∧Holds w' (H++(Hs++(cO++Fr)))∧af w w'
theorem Kk:rP Tryz.prog 95 60 1 24 (.slice none 0 0):=rP.mk' (by kernel_rfl) (by kernel_rfl) (by rfl) (by decide)
theorem Hu{nm:List UInt8}{gn q0 last aj:Int}{es:List az}{bK:List Nat}{nps:List NP}(gen:Int)(h:aT b sb l H)(hs:cr sb cb s Hs)(cz:ai cb g cap mv c Hc)(hH:Holds w (H++(Hs++(Hc++Fr))))(I:iy s c nm gn es bK nps q0 last aj)(aob:gn<gen)(fi:c.on=true)(fI:c.ops<=900000000000):
  Calls Tryz.prog 59 #[.pointer (some ⟨b,0,none⟩),.int .i64 gen] w (fun e w'=>AM cb g cap mv c w H Hs Fr e w'∨Pp cb g cap mv c w H Hs Fr e w'):=by
 have k1:=nil_eq;have k2:=cC;have k3:=cS;have oR:=bO I.cont.pl;have qH:128<=s.Z:=by omega
 have tW:s.Z<=256:=by omega
 have HK:=aa (rz (w:=w) (Fr:=H++Fr) 4 gen hs cz (show Holds w (Hs++(Hc++(H++Fr)))from hH.p) I.cont fi fI);obtain⟨_,_,bm⟩:=h.cells;obtain⟨_,x1,_⟩:=bm w _ hH;have HI:=aa I;clear bm hs cz h oR hH;go_enter func59,ntmps59;go_wp2_with fail
 refine HK.o.mono ?_;rintro e w1 (⟨c',dk,v,Hv,Hp,cO,nj,Lu,cm,qU,eV,rfl,hv,eG,ax,aK⟩|⟨c',ve,He,cO,cm,cZ,eV,rfl,he,eG,ax,aK⟩)
 ·obtain⟨WR,nk,is,hhf⟩:=HI.o.half aob Lu;have XF:=NT qH nj hhf;have aoc:=aa (show dk.length<aM s.Z nk.length by have:=hhf.few;simpa using this);have lS:=aa eG;have HR:=aa (aS cm (aS qU eV));have HV:=aa hv;obtain⟨A,cv,rfl⟩:=au.val (hv:au 183 6 _ dk.length (xA dk) Hv);obtain⟨F,hF⟩:∃F,F=Hv++(Hp++(H++(Hs++(cO++Fr)))):=⟨_,rfl⟩;have Xd:Holds w1 F:=by rw[hF];exact ax.p
  have HFP:=aa (show vZ F (.slice A dk.length cv) dk from fun wx hx=>by rw[hF]at hx;exact au.reads HV.o hx);have HHP:=aa (show∀wx,Holds wx F->Holds wx Hp from fun wx hx=>by rw[hF]at hx;exact hx.right.left);have HFF:=aa (show∀wx,Holds wx F->Holds wx (H++(Hs++(cO++Fr)))from fun wx hx=>by rw[hF]at hx;exact hx.right.right);have nW:=aa XF;have acI:=XF.n20;have kV:=aa (xh (.slice A dk.length cv) dk w1 F HFP.o Xd (XF.up qH tW HHP.o) acI);clear nj Lu cm qU eV hv eG ax hhf XF hF HV HK;go_wp2_with fail
  refine kV.o.mono ?_;rintro e w2⟨rfl,aB,aX⟩;have bD:X9 dk w F (.slice none 0 0) (.int .i64 0) w2:=⟨0,[],by omega,rfl,au.nil _ _,aB,aK.trans aX⟩;clear kV aB aX aK;go_wp2_with fail
  go_loopw [8,33] (fun ov iv wr=>X9 dk w F ov iv wr) (fun _ iv _=>dk.length-(intOf iv).toNat)
  case atStart=>exact bD
  case round=>
   clear bD;obtain⟨k,Ho,hk,rfl,ho,hH,hg⟩:=hrel;obtain⟨A5,c5,rfl⟩:=ho.val;by_cases aG:k<dk.length
   ·have dQ:(k:Int)<dk.length:=by omega
    obtain⟨pb,po,rfl,oh⟩:=HFP.o.get hH.right (by omega);obtain⟨y0,y1,y2,y3,y4,y5⟩:=oh wr hH.right k aG;have jP:=aa (show(dk.take (k+1)).map kj.DB=(dk.take k).map kj.DB++[.slice dk[k].da dk[k].dn dk[k].dc] by rw[gB aG,dm];rfl);generalize dk[k]=x at*;obtain⟨xn,⟨x0,xI,x2,x3⟩,xa,xl,xc⟩:=x;unfold kj.DB at y5;dsimp only at y0 y1 y2 y3 y4 y5 jP;have bM:=hH.alloc (.cells #[.int .i64 xn,.int .i64 x0,.int .u64 xI,.int .i64 x2,.int .i64 x3,.slice xa xl xc] 183);have cJ:=hg.alloc (.cells #[.int .i64 xn,.int .i64 x0,.int .u64 xI,.int .i64 x2,.int .i64 x3,.slice xa xl xc] 183);have HO:=aa ho;clear oh hH hg ho;go_upto_region 9 with fail
    generalize wr.alloc (.cells #[.int .i64 xn,.int .i64 x0,.int .u64 xI,.int .i64 x2,.int .i64 x3,.slice xa xl xc] 183)=w3 at*;generalize wr.heap.size=nb at*;clear y0 y1 y2 y3 y4 y5;have z5:=bM.ae 5;have FX:Holds w3 (Ho++((nb,.cells #[.int .i64 xn,.int .i64 x0,.int .u64 xI,.int .i64 x2,.int .i64 x3,.slice xa xl xc] 183)::F)):=bM.p;have oc:k+1<=maxLen:=by simp only[maxLen];omega
    have si:(k+1)*24<=140737488355328:=by omega
    clear bM;go_wp2_with (at_builtin;refine al Kk (by rfl) (.tmp 37) (.tmp 40) (by rfl) (by rfl) (by rfl) HO.o (FX.bP _) ag.one (by simp[Value.oneCell']) oc si ?_;intro A' c2 w' H' ay hX vj)
    refine⟨⟨k+1,H',aG,by go_num,?_,hX.p,(cJ.alloc _).trans vj⟩,by simp[intOf];omega⟩;rw[jP.o];exact ay
   ·have dQ:¬(k:Int)<dk.length:=by omega
    obtain rfl:k=dk.length:=by omega
    rw[fB]at ho;have HO:=aa ho;clear ho;have HJ:=aa (show Calls Tryz.prog 120 #[.slice A5 dk.length c5] wr (uU wr (Ho++F))from by
     have Wz:=nW.o.il;have Zp:=FA (F:=F) (ds:=is.map (cW s.Z WR nk)) HO.o (by rw[bY,Wz]) (fun j h1 h2=>by
      rw[List.getElem_map];exact fun wx hx=>(nW.o.d j h1 (by omega)).1 wx (HHP.o wx hx))
     by_cases h0:0<dk.length
     ·have tI:0<is.length:=by omega
      refine NI s.Z (is[0]'tI) WR nk _ _ wr _ Zp hH (by rw[bY,Wz];exact h0) (by rw[List.getElem_map]) ?_ (by rw[bY,Wz];have:=aoc.o;omega) nW.o.low nW.o.lA (by have:=nW.o.len;omega) qH tW;exact(nW.o.d 0 h0 tI).2
     ·have:is=[]:=jW (by omega);rw[this]at Zp;exact K5 _ wr _ Zp hH)
    have lx:=aa (show∀w',Holds w' F->af w w'->Pp cb g cap mv c w H Hs Fr (.returned (.tuple #[.bool false,.nilIface])) w' from fun w' hX vj=>⟨c',cO,HR.o.1,HR.o.2.1,HR.o.2.2,rfl,lS.o,HFF.o w' hX,vj⟩);clear HO hH;go_wp2_with fail
    refine HJ.o.mono ?_;rintro e w3⟨ve,He,rfl,he,aD,bj⟩;obtain⟨h0,_⟩|⟨h0,eb,DM,rfl,rfl⟩:=he
    ·exact absurd h0 (by decide)
    have pJ:=aa (lx.o w3 aD.right.right (hg.trans bj));clear aD bj hg HJ lx;go_wp2_with fail
    go_ret2
    exact .inr pJ.o
 ·obtain⟨h0,_⟩|⟨h0,eb,DM,rfl,rfl⟩:=he
  ·exact absurd h0 (by decide)
  have lx:=aa (show AM cb g cap mv c w H Hs Fr (.returned (.tuple #[.bool false,.iface 141 (.pointer (some ⟨eb,0,none⟩))])) w1 from⟨c',_,_,cO,cm,cZ,eV,rfl,.inr ⟨h0,eb,DM,rfl,rfl⟩,eG,ax.p,aK⟩);clear cm cZ eV eG ax aK HK;go_wp2_with fail
  go_ret2
  exact .inl lx.o
end
section
variable{b sb cb g cap:Nat}{mv:Value}{s:SM}{c:CM}{l:LM}{H Hs Hc Fr:HL}{w:World}
theorem aT.setName(h:aT b sb l H)(nm:List UInt8)(x:Int):∃H',aT b sb {l with name:=nm,gen:=x} H'∧∀(w:World) (F:HL),Holds w (H++F)->Holds ((w.setCell ⟨b,2,none⟩ (.string (cq nm))).setCell ⟨b,3,none⟩ (.int .i64 x)) (H'++F)∧w.frozen? ⟨b,2,none⟩=false∧w.frozen? ⟨b,3,none⟩=false∧b<w.heap.size:=by
 obtain⟨tv,pv,Ht,Hp,rfl,h1,h2⟩:=h;refine⟨_,⟨tv,pv,Ht,Hp,rfl,h1,h2⟩,fun w F hX=>⟨?_,hX.ah 2,hX.ah 3,hX.aG⟩⟩;have h5:=Holds.set hX 2 (.string (cq nm));exact Holds.set h5 3 (.int .i64 x)
theorem aT.Kl(h:aT b sb l H):∃A cp Hp Ho,(∀(w:World) (F:HL),Holds w (H++F)->w.cell? ⟨b,6,none⟩=some (.slice A l.ad.length cp)∧Holds w (Hp++(Ho++F)))∧au 3 1 (.slice A l.ad.length cp) l.ad.length ((nu l.ad).map (.int .i64)) Hp∧
  ∀(A':Option Addr) (c' n:Nat) (rR:HL),au 3 1 (.slice A' (l.ad.length+1) c') (l.ad.length+1) ((nu l.ad).map (.int .i64)++[.int .i64 (n:Int)]) rR->∃H',aT b sb {l with ad:=l.ad++[n]} H'∧
   ∀(w:World) (F:HL),Holds w (rR++(Ho++F))->Holds (w.setCell ⟨b,6,none⟩ (.slice A' (l.ad.length+1) c')) (H'++F)∧w.frozen? ⟨b,6,none⟩=false∧b<w.heap.size∧w.cell? ⟨b,6,none⟩=some (.slice A l.ad.length cp):=by
 obtain⟨tv,pv,Ht,Hp,rfl,h1,h2⟩:=h;obtain⟨A,cp,rfl⟩:=h2.val;have hlen:(nu l.ad).length=l.ad.length:=by simp[nu]
 unfold aZ at h2;rw[hlen]at h2⊢;refine⟨A,cp,Hp,(b,.cells (Bg tv sb l (.slice A l.ad.length cp)) 113)::Ht,fun w F hX=>⟨hX.ae 6,hX.p⟩,h2,fun A' c' n rR hr=>?_⟩;refine⟨(b,.cells (Bg tv sb {l with ad:=l.ad++[n]} (.slice A' (l.ad.length+1) c')) 113)::(Ht++rR),⟨tv,_,Ht,rR,rfl,h1,?_⟩,fun w F hX=>?_⟩
 ·unfold aZ;rw[show(nu (l.ad++[n])).length=l.ad.length+1 by simp[nu],show(nu (l.ad++[n])).map (Value.int .i64)=(nu l.ad).map (.int .i64)++[.int .i64 (n:Int)] by simp[nu]];exact hr
 ·have hY:Holds w ((b,.cells (Bg tv sb l (.slice A l.ad.length cp)) 113)::(Ht++(rR++F))):=hX.p;have h6:=Holds.set hY 6 (.slice A' (l.ad.length+1) c');have h7:Holds (w.setCell ⟨b,6,none⟩ (.slice A' (l.ad.length+1) c')) ((b,.cells (Bg tv sb {l with ad:=l.ad++[n]} (.slice A' (l.ad.length+1) c')) 113)::(Ht++(rR++F))):=h6;exact⟨h7.p,hY.ah 6,hY.aG,hY.ae 6⟩
def ahW(b sb:Nat)(l1:LM)(es:List az)(w:World)(F:HL)(iv:Value)(wr:World):Prop:=
 ∃(k:Nat) (H':HL),k<=es.length∧iv=.int .i64 k∧aT b sb {l1 with T:=k8 l1.T (es.take k)} H'∧Holds wr (H'++F)∧af w wr
def ahX(b sb:Nat)(l2:LM)(ns:List Nat)(w:World)(F:HL)(iv:Value)(wr:World):Prop:=
 ∃(k:Nat) (H':HL),k<=ns.length∧iv=.int .i64 k∧aT b sb {l2 with ad:=l2.ad++ns.take k} H'∧Holds wr (H'++F)∧af w wr
def Km(b sb cb g cap:Nat)(mv:Value)(c:CM)(l':LM)(w:World)(Hs Fr:HL)(e:Ending)(w':World):Prop:=
 ∃(c':CM) (H' cO:HL),Reads c c'∧c'.on=true∧c'.ops<=c.ops+256∧e=.returned (.tuple #[.bool true,.nilIface])∧aT b sb l' H'∧ai cb g cap mv c' cO∧Holds w' (H'++(Hs++(cO++Fr)))∧af w w'
theorem Hz{nm:List UInt8}{gn q0 last aj:Int}{es:List az}{bK:List Nat}{nps:List NP}(h:aT b sb l H)(hs:cr sb cb s Hs)(cz:ai cb g cap mv c Hc)(hH:Holds w (H++(Hs++(Hc++Fr))))(I:iy s c nm gn es bK nps q0 last aj)(fi:c.on=true)(fI:c.ops<=900000000000)(hT:l.T.length<=1000)(F0:eU l.T)(ik:l.ad.length<=1000):
  Calls Tryz.prog 59 #[.pointer (some ⟨b,0,none⟩),.int .i64 gn] w (fun e w'=>AM cb g cap mv c w H Hs Fr e w'∨Km b sb cb g cap mv c {l with name:=nm,gen:=gn,T:=k8 l.T es,ad:=l.ad++bK} w Hs Fr e w'):=by
 have k1:=nil_eq;have k2:=cC;have k3:=cS;have oR:=bO I.cont.pl;have qH:128<=s.Z:=by omega
 have tW:s.Z<=256:=by omega
 have HK:=aa (rz (w:=w) (Fr:=H++Fr) 4 gn hs cz (show Holds w (Hs++(Hc++(H++Fr)))from hH.p) I.cont fi fI);obtain⟨_,_,bm⟩:=h.cells;obtain⟨_,x1,x2,x3,_⟩:=bm w _ hH;have pd:=aa fun(wx:World) (F:HL) (hx:Holds wx (H++F))=>aS (bm wx F hx).2.2.1 (bm wx F hx).2.2.2.1;have qR:=aa h;have HI:=aa I;clear bm hs cz h oR hH;go_enter func59,ntmps59;go_wp2_with fail
 refine HK.o.mono ?_;rintro e w1 (⟨c',dk,v,Hv,Hp,cO,nj,Lu,cm,qU,eV,rfl,hv,eG,ax,aK⟩|⟨c',ve,He,cO,cm,cZ,eV,rfl,he,eG,ax,aK⟩)
 ·obtain⟨XF,hPZ,hPN⟩:=NU qH HI.o nj (HI.o.D0 Lu);have HPZ:=aa hPZ;have LD:=aa hPN;have lS:=aa eG;have HR:=aa (aS cm (aS qU eV));have HV:=aa hv;obtain⟨A,cv,rfl⟩:=au.val (hv:au 183 6 _ dk.length (xA dk) Hv);obtain⟨F,hF⟩:∃F,F=Hv++(Hp++(H++(Hs++(cO++Fr)))):=⟨_,rfl⟩;have Xd:Holds w1 F:=by rw[hF];exact ax.p
  have HFP:=aa (show vZ F (.slice A dk.length cv) dk from fun wx hx=>by rw[hF]at hx;exact au.reads HV.o hx);have HHP:=aa (show∀wx,Holds wx F->Holds wx Hp from fun wx hx=>by rw[hF]at hx;exact hx.right.left);have HFF:=aa hF;have nW:=aa XF;have acI:=XF.n20;have kV:=aa (xh (.slice A dk.length cv) dk w1 F HFP.o Xd (XF.up qH tW HHP.o) acI);clear nj Lu cm qU eV hv eG ax XF hF HK hPZ hPN x1 x2 x3;go_wp2_with fail
  refine kV.o.mono ?_;rintro e w2⟨rfl,aB,aX⟩;have bD:X9 dk w F (.slice none 0 0) (.int .i64 0) w2:=⟨0,[],by omega,rfl,au.nil _ _,aB,aK.trans aX⟩;clear kV aB aX aK;go_wp2_with fail
  go_loopw [8,33] (fun ov iv wr=>X9 dk w F ov iv wr) (fun _ iv _=>dk.length-(intOf iv).toNat)
  case atStart=>exact bD
  case round=>
   clear bD;obtain⟨k,Ho,hk,rfl,ho,hH,hg⟩:=hrel;obtain⟨A5,c5,rfl⟩:=ho.val;by_cases aG:k<dk.length
   ·have dQ:(k:Int)<dk.length:=by omega
    obtain⟨pb,po,rfl,oh⟩:=HFP.o.get hH.right (by omega);obtain⟨y0,y1,y2,y3,y4,y5⟩:=oh wr hH.right k aG;have jP:=aa (show(dk.take (k+1)).map kj.DB=(dk.take k).map kj.DB++[.slice dk[k].da dk[k].dn dk[k].dc] by rw[gB aG,dm];rfl);generalize dk[k]=x at*;obtain⟨xn,⟨x0,xI,x2,x3⟩,xa,xl,xc⟩:=x;unfold kj.DB at y5;dsimp only at y0 y1 y2 y3 y4 y5 jP;have bM:=hH.alloc (.cells #[.int .i64 xn,.int .i64 x0,.int .u64 xI,.int .i64 x2,.int .i64 x3,.slice xa xl xc] 183);have cJ:=hg.alloc (.cells #[.int .i64 xn,.int .i64 x0,.int .u64 xI,.int .i64 x2,.int .i64 x3,.slice xa xl xc] 183);have HO:=aa ho;clear oh hH hg ho;go_upto_region 9 with fail
    generalize wr.alloc (.cells #[.int .i64 xn,.int .i64 x0,.int .u64 xI,.int .i64 x2,.int .i64 x3,.slice xa xl xc] 183)=w3 at*;generalize wr.heap.size=nb at*;clear y0 y1 y2 y3 y4 y5;have z5:=bM.ae 5;have FX:Holds w3 (Ho++((nb,.cells #[.int .i64 xn,.int .i64 x0,.int .u64 xI,.int .i64 x2,.int .i64 x3,.slice xa xl xc] 183)::F)):=bM.p;have oc:k+1<=maxLen:=by simp only[maxLen];omega
    have si:(k+1)*24<=140737488355328:=by omega
    clear bM;go_wp2_with (at_builtin;refine al Kk (by rfl) (.tmp 37) (.tmp 40) (by rfl) (by rfl) (by rfl) HO.o (FX.bP _) ag.one (by simp[Value.oneCell']) oc si ?_;intro A' c2 w' H' ay hX vj)
    refine⟨⟨k+1,H',aG,by go_num,?_,hX.p,(cJ.alloc _).trans vj⟩,by simp[intOf];omega⟩;rw[jP.o];exact ay
   ·have dQ:¬(k:Int)<dk.length:=by omega
    obtain rfl:k=dk.length:=by omega
    rw[fB]at ho;have HO:=aa ho;clear ho;have HJ:=aa (show Calls Tryz.prog 120 #[.slice A5 dk.length c5] wr _ from by
     have Zp:=FA (F:=F) (ds:=(List.range (aM s.Z es.length)).map (cW s.Z nm es)) HO.o (by rw[bY,fP,HPZ.o]) (fun j h1 h2=>by
      rw[List.getElem_map,List.getElem_range];have h9:=(nW.o.d j h1 (by rw[nW.o.il];exact h1)).1;rw[List.getElem_range]at h9;exact fun wx hx=>h9 wx (HHP.o wx hx))
     exact NH s.Z nm es _ wr _ Zp hH nW.o.low nW.o.lA (by have:=nW.o.len;omega) qH tW)
    clear HO hH;go_wp2_with fail
    refine HJ.o.mono ?_;rintro e w3⟨ev,H3,rfl,Ay,aD,bj⟩;have HEV:=aa Ay;obtain⟨A3,c3,rfl⟩:=Ay.val;have cf:=hg.trans bj;obtain⟨H6,Az,bz⟩:=qR.o.setName nm gn;have aU:Holds w3 (H++(Hs++(cO++(H3++(Hv++Fr))))):=by
     have h9:Holds w3 (H3++(Ho++F)):=aD;rw[HFF.o]at h9;exact h9.p
    obtain⟨y2,y3⟩:=pd.o w3 _ aU;obtain⟨bg,f2,f3,jq⟩:=bz w3 _ aU;have eY:=(cf.setCell ⟨b,2,none⟩ (.string (cq nm))).setCell ⟨b,3,none⟩ (.int .i64 gn);have SU:=aa Az;clear Ay aD bj hg cf Az bz aU HJ;go_upto_region 15 with fail
    generalize(w3.setCell ⟨b,2,none⟩ (.string (cq nm))).setCell ⟨b,3,none⟩ (.int .i64 gn)=w4 at*;obtain⟨l1,iY⟩:∃l1:LM,l1={l with name:=nm,gen:=gn}:=⟨_,rfl⟩;have FV:=aa iY;have OG:l1.T.length<=1000∧eU l1.T∧l1.ad.length<=1000:=by rw[iY];exact⟨hT,F0,ik⟩
    obtain⟨F1,hF1⟩:∃F1,F1=Hs++(cO++(H3++(Hv++Fr))):=⟨_,rfl⟩;rw[<-hF1]at bg;have Sy:=aa hF1;have kp:ahW b sb l1 es w F1 (.int .i64 0) w4:=⟨0,H6,by omega,rfl,by rw[iY];exact SU.o,bg,eY⟩;have hle:es.length<=64:=nW.o.len;clear iY hF1 bg eY y2 y3 f2 f3 jq SU pd qR hT F0 ik;go_wp2_with fail
    go_loopw [61] (fun iv wr=>ahW b sb l1 es w F1 iv wr) (fun iv _=>es.length-(intOf iv).toNat)
    case atStart=>exact kp
    case round=>
     clear kp;obtain⟨k,H7,hk,rfl,vB,hH,hg⟩:=hrel;by_cases aG:k<es.length
     ·have dQ:(k:Int)<es.length:=by omega
      have gK:=hH;rw[Sy.o]at gK;obtain⟨A9,c9,Ay,_,_,bm⟩:=(HEV.o.at_ (Fr:=H7++(Hs++(cO++(Hv++Fr)))) (show Holds wr (H3++(H7++(Hs++(cO++(Hv++Fr)))))from gK.p)).cells;injection Ay with zZ Gi DZ;subst zZ DZ;clear Gi gK;obtain⟨b2,o2,rfl,ae⟩:=bm (by omega);obtain⟨z0,z1,z2,z3⟩:=ae k aG;have pM:=(nW.o.lA.1 _ (cX aG)).1.1;have jP:=aa (show fV (k8 l1.T (es.take k)) es[k]=k8 l1.T (es.take (k+1)) by rw[gB aG,CT]);generalize es[k]=n at*;obtain⟨ea,ep,ed,eq⟩:=n;dsimp only at z0 z1 z2 z3 pM;obtain⟨tb,Ht,ZQ,OB,OC,rU,Bz⟩:=vB.table;have Uj:(k8 l1.T (es.take k)).length<200000:=by have:=(Rq OG.2.1 (es.take k)).1;rw[dG]at this;omega
      have bM:=hH.alloc (.cells #[.int .u64 ea,.int .i64 ep,.bool ed,.int .i64 eq] 24);have cJ:=hg.alloc (.cells #[.int .u64 ea,.int .i64 ep,.bool ed,.int .i64 eq] 24);have ZR:=aa OC;have dj:=aa rU;have Uk:=aa Bz;have TA:=aa OB;clear OC rU Bz OB hH hg vB bm ae;go_upto_region 18 with fail
      generalize wr.alloc (.cells #[.int .u64 ea,.int .i64 ep,.bool ed,.int .i64 eq] 24)=w9 at*;generalize wr.heap.size=nb at*;clear z0 z1 z2 z3;have iJ:=aa fun(wx:World) (hx:Holds wx ((nb,.cells #[.int .u64 ea,.int .i64 ep,.bool ed,.int .i64 eq] 24)::(H7++F1)))=>show wx.cell? ⟨b,0,none⟩=some (.pointer (some ⟨tb,0,none⟩))∧wx.cell? ⟨nb,0,none⟩=some (.int .u64 ea)∧wx.cell? ⟨nb,1,none⟩=some (.int .i64 ep)∧wx.cell? ⟨nb,2,none⟩=some (.bool ed)∧wx.cell? ⟨nb,3,none⟩=some (.int .i64 eq)from⟨TA.o wx _ hx.tail,hx.ae 0,hx.ae 1,hx.ae 2,hx.ae 3⟩;have SR:=aa fun(wx:World) (hx:Holds wx ((nb,.cells #[.int .u64 ea,.int .i64 ep,.bool ed,.int .i64 eq] 24)::(H7++F1)))=>show Calls Tryz.prog 107 #[.pointer (some ⟨tb,0,none⟩),.agg #[.int .u64 ea,.int .i64 ep,.bool ed,.int .i64 eq]] wx (fun e w'=>(∃u,e=.returned u)∧∃H',aT b sb {l1 with T:=k8 l1.T (es.take (k+1))} H'∧Holds w' (H'++F1)∧af wx w')from by
       have hy:Holds wx (Ht++(ZQ++(((nb,.cells #[.int .u64 ea,.int .i64 ep,.bool ed,.int .i64 eq] 24)::[])++F1))):=(dj.o wx _).1 (show Holds wx (H7++(((nb,.cells #[.int .u64 ea,.int .i64 ep,.bool ed,.int .i64 eq] 24)::[])++F1))from hx.p);refine(Fl _ _ ⟨ea,ep,ed,eq⟩ Ht _ wx ZR.o hy pM Uj).mono ?_;rintro e w'⟨rfl,H',Es,gK,nD⟩;rw[jP.o]at Es;obtain⟨H8,Ow,aod⟩:=Uk.o _ _ Es;exact⟨⟨_,rfl⟩,H8,Ow,aod w' _ (show Holds w' (H'++(ZQ++F1))from gK.p),nD⟩
      refine aF (fun wx=>wx.cell? ⟨b,0,none⟩=some (.pointer (some ⟨tb,0,none⟩))∧wx.cell? ⟨nb,0,none⟩=some (.int .u64 ea)∧wx.cell? ⟨nb,1,none⟩=some (.int .i64 ep)∧wx.cell? ⟨nb,2,none⟩=some (.bool ed)∧wx.cell? ⟨nb,3,none⟩=some (.int .i64 eq)) 5 (by kernel_rfl) (fun w1 hd=>iJ.o _ (bM.dr hd)) (fun w1 hd hs=>?_);have dZ:=bM.dr hd;have iZ:=cJ.trans (af.dr hd);clear hd bM cJ;refine dY 0 1 2 3 ?_;refine ji 4 ?_;refine Zl 5 fun K hK=>?_;go_simp;refine(SR.o w1 dZ).mono ?_;rintro e lQ ⟨⟨u,rfl⟩,H8,Ow,Gn,eJ⟩;have Gp:=iZ.trans eJ;have HL8:=aa Ow;clear dZ eJ iZ Ow;refine hK _ _ ?_;clear hK K hs;refine Ze ?_;go_wp2_with fail
      go_roundw
      case rel=>exact⟨k+1,H8,aG,by simp,HL8.o,Gn,Gp⟩
      case measure=>simp[intOf];omega
     ·have dQ:¬(k:Int)<es.length:=by omega
      obtain rfl:k=es.length:=by omega
      rw[fB]at vB;obtain⟨l2,lP⟩:∃l2:LM,l2={l1 with T:=k8 l1.T es}:=⟨_,rfl⟩;rw[<-lP]at vB;have SL:=aa lP;have BB:ahX b sb l2 bK w F1 (.int .i64 0) wr:=⟨0,H7,by omega,rfl,by simpa using vB,hH,hg⟩;have sk:l2.ad.length<=1000:=by rw[lP];exact OG.2.2
      have Sw:dk.length=bK.length:=by have:=congrArg List.length LD.o;simpa using this
      clear vB hH hg lP;go_wp2_with fail
      go_loopw [74] (fun iv wr=>ahX b sb l2 bK w F1 iv wr) (fun iv _=>dk.length-(intOf iv).toNat)
      case atStart=>exact BB
      case round=>
       clear BB;obtain⟨k,H8,hk,rfl,Ow,hH,hg⟩:=hrel;by_cases aG:k<dk.length
       ·have dQ:(k:Int)<dk.length:=by omega
        have gK:=hH;rw[Sy.o]at gK;obtain⟨pb,po,rfl,oh⟩:=(show vZ Hv (.slice A dk.length cv) dk from fun wx hx=>au.reads HV.o (Fr:=[]) (by simpa using hx)).get (show Holds wr Hv from gK.right.right.right.right.left) (by omega);obtain⟨z0,z1,z2,z3,z4,z5⟩:=oh wr gK.right.right.right.right.left k aG;have hxn:dk[k].n=(bK[k]'(by omega):Nat):=by
         have h9:=congrArg (fun l=>l[k]?) LD.o;simp only[dW]at h9;rw[bF aG,bF (by omega:k<bK.length)]at h9;simpa using h9
        have jP:=aa (show bK.take (k+1)=bK.take k++[bK[k]'(by omega)]from gB (by omega));rw[hxn]at z0;generalize(bK[k]'(by omega))=pn at*;generalize dk[k]=x at*;obtain⟨xn,⟨x0,xI,x2,x3⟩,xa,xl,xc⟩:=x;unfold kj.DB at z5;dsimp only at z0 z1 z2 z3 z4 z5;have bM:=hH.alloc (.cells #[.int .i64 (pn:Int),.int .i64 x0,.int .u64 xI,.int .i64 x2,.int .i64 x3,.slice xa xl xc] 183);have cJ:=hg.alloc (.cells #[.int .i64 (pn:Int),.int .i64 x0,.int .u64 xI,.int .i64 x2,.int .i64 x3,.slice xa xl xc] 183);obtain⟨A7,c7,Hq,Ho2,hX,ay,kM⟩:=Ow.Kl;have hlp:({l2 with ad:=l2.ad++bK.take k}:LM).ad.length<=1100:=by show(l2.ad++bK.take k).length<=1100;rw[aY,dG];omega
        generalize kg:({l2 with ad:=l2.ad++bK.take k}:LM).ad=qK at*;have HX:=aa hX;have jm:=aa ay;have acJ:=aa (show∀(A':Option Addr) (c':Nat) (rR:HL),au 3 1 (.slice A' (qK.length+1) c') (qK.length+1) ((nu qK).map (.int .i64)++[.int .i64 (pn:Int)]) rR->∃H',aT b sb {l2 with ad:=l2.ad++bK.take (k+1)} H'∧
          ∀(w:World) (F:HL),Holds w (rR++(Ho2++F))->Holds (w.setCell ⟨b,6,none⟩ (.slice A' (qK.length+1) c')) (H'++F)∧w.frozen? ⟨b,6,none⟩=false∧b<w.heap.size∧w.cell? ⟨b,6,none⟩=some (.slice A7 qK.length c7)from fun A' c' rR hr=>by
         obtain⟨H',h1,h2⟩:=kM A' c' pn rR hr;refine⟨H',?_,h2⟩;rw[jP.o,<-cE];have h3:qK=l2.ad++bK.take k:=kg.symm;rw[h3]at h1;exact h1)
        have oc:qK.length+1<=maxLen:=by simp only[maxLen];omega
        have si:(qK.length+1)*8<=140737488355328:=by omega
        clear hX ay kM hH hg gK oh Ow hxn kg;go_upto_region 23 with fail
        generalize wr.alloc (.cells #[.int .i64 (pn:Int),.int .i64 x0,.int .u64 xI,.int .i64 x2,.int .i64 x3,.slice xa xl xc] 183)=w9 at*;generalize wr.heap.size=nb at*;clear z0 z1 z2 z3 z4 z5;have iJ:=aa fun(wx:World) (hx:Holds wx ((nb,.cells #[.int .i64 (pn:Int),.int .i64 x0,.int .u64 xI,.int .i64 x2,.int .i64 x3,.slice xa xl xc] 183)::(H8++F1)))=>show wx.cell? ⟨b,6,none⟩=some (.slice A7 qK.length c7)∧wx.cell? ⟨nb,0,none⟩=some (.int .i64 (pn:Int))from⟨(HX.o wx _ hx.tail).1,hx.ae 0⟩;refine aF (fun wx=>wx.cell? ⟨b,6,none⟩=some (.slice A7 qK.length c7)∧wx.cell? ⟨nb,0,none⟩=some (.int .i64 (pn:Int))) 11 (by kernel_rfl) (fun w1 hd=>iJ.o _ (bM.dr hd)) (fun w1 hd hs=>?_);have dZ:=bM.dr hd;have iZ:=cJ.trans (af.dr hd);clear hd bM cJ;refine dY 0 1 2 3 ?_;refine Ag 4 5 6 ?_;refine Zm 7 fun K hK=>?_;have qJ:=dZ.bP (.cells #[.int .i64 (pn:Int)] 3);have ZN:=iZ.alloc (.cells #[.int .i64 (pn:Int)] 3);go_simp;refine hK _ _ (iJ.o _ qJ) (fun _=>?_);clear hK K hs;rename_i hs;refine Zm 8 fun K hK=>?_;have Bf:=(HX.o _ _ (show Holds _ (H8++((nb,.cells #[.int .i64 (pn:Int),.int .i64 x0,.int .u64 xI,.int .i64 x2,.int .i64 x3,.slice xa xl xc] 183)::F1))from qJ.p)).2;refine bf ud (by rfl) _ _ (by rfl) (by rfl) (by rfl) jm.o Bf ag.one (by simp[Value.oneCell']) oc si ?_;intro A' c2 w' H' jT bC bV;obtain⟨H9,IZ,JG⟩:=acJ.o A' c2 H' jT;obtain⟨dU,f6,acH,Iu⟩:=JG w' _ bC;have ia:=((ZN.trans bV).setCell ⟨b,6,none⟩ (.slice A' (qK.length+1) c2));have ZT:=aa IZ;have PN:=bC.right.right.ae 0;clear dZ qJ Bf jT JG IZ bV;refine hK _ _ (⟨Iu,PN⟩) (fun _=>?_);clear hK K hs;rename_i hs;refine qL 9 10 ?_;refine Zl 11 fun K hK=>?_;go_simp;refine hK _ _ ?_;clear hK K hs;refine Ze ?_;go_wp2_with fail
        exact⟨⟨k+1,H9,by omega,by simp,ZT.o,(show Holds _ (H9++F1)from dU.p),ia⟩,by simp[intOf];omega⟩
       ·have dQ:¬(k:Int)<dk.length:=by omega
        have xt:k=bK.length:=by omega
        have ew:=hH;rw[Sy.o]at ew;have lx:=aa (show Km b sb cb g cap mv c {l with name:=nm,gen:=gn,T:=k8 l.T es,ad:=l.ad++bK} w Hs Fr (.returned (.tuple #[.bool true,.nilIface])) wr from
         ⟨c',H8,cO,HR.o.1,HR.o.2.1,HR.o.2.2,rfl,by rw[xt,fB,SL.o,FV.o]at Ow;exact Ow,lS.o,(show Holds wr (H8++(Hs++(cO++Fr)))from ew.p),hg⟩)
        clear ew hH hg Ow xt;go_wp2_with fail
        go_ret2
        exact .inr lx.o
 ·obtain⟨h0,_⟩|⟨h0,eb,DM,rfl,rfl⟩:=he
  ·exact absurd h0 (by decide)
  have lx:=aa (show AM cb g cap mv c w H Hs Fr (.returned (.tuple #[.bool false,.iface 141 (.pointer (some ⟨eb,0,none⟩))])) w1 from⟨c',_,_,cO,cm,cZ,eV,rfl,.inr ⟨h0,eb,DM,rfl,rfl⟩,eG,ax.p,aK⟩);clear cm cZ eV eG ax aK HK;go_wp2_with fail
  go_ret2
  exact .inl lx.o
end
section
variable{b sb cb g cap:Nat}{mv:Value}{s:SM}{c:CM}{l:LM}{H Hs Hc Fr:HL}{w:World}
def oE(nps:List NP)(k:Nat):List Nt:=((nps.take k).map NP.ns).flatten
def pq(nps:List NP)(k:Nat):List Nat:=(nps.take k).map NP.p
theorem RP{nps:List NP}{k:Nat}(h:k<nps.length):oE nps (k+1)=oE nps k++nps[k].ns:=by
 unfold oE;rw[gB h,dm,qe];simp
theorem RQ{nps:List NP}{k:Nat}(h:k<nps.length):pq nps (k+1)=pq nps k++[nps[k].p]:=by
 unfold pq;rw[gB h,dm];simp
theorem RR{nps:List NP}{k:Nat}:(pq nps k).length<=nps.length:=by unfold pq;rw[bY,dG];omega
theorem RS{nps:List NP}(h:∀x∈nps,x.ns.length<=1000):∀k,(oE nps k).length<=nps.length*1000:=by
 intro k;have:∀L:List NP,(∀x∈L,x.ns.length<=1000)->(L.map NP.ns).flatten.length<=L.length*1000:=by
  intro L
  induction L with
  |nil=>intro _;simp
  |cons x L ih=>
   intro hL;have:=hL x dC;have:=ih fun y hy=>hL y (fA _ hy);rw[ku,kr,aY,fC];omega
 have h1:=this (nps.take k) fun x hx=>h x (rJ hx);have h2:(nps.take k).length<=nps.length:=by rw[dG];omega
 unfold oE;omega
def ahY(b sb:Nat)(l:LM)(nps:List NP)(w:World)(F:HL)(iv:Value)(wr:World):Prop:=
 ∃(k:Nat) (H':HL),k<=nps.length∧iv=.int .i64 k∧aT b sb {l with T:=aI l.T (oE nps k),ad:=l.ad++pq nps k} H'∧Holds wr (H'++F)∧af w wr
def Pq(cb g cap:Nat)(mv:Value)(c:CM)(w:World)(H Hs Fr:HL)(e:Ending)(w':World):Prop:=
 ∃(c':CM) (ve:Value) (He cO:HL),Reads c c'∧jx c c'∧c'.ops<=c.ops+256∧e=.returned ve∧bJ ve 4 He∧ai cb g cap mv c' cO∧Holds w' (H++(Hs++(cO++(He++Fr))))∧af w w'
def Pr(b sb cb g cap:Nat)(mv:Value)(c:CM)(l':LM)(w:World)(Hs Fr:HL)(e:Ending)(w':World):Prop:=
 ∃(c':CM) (H' cO:HL),Reads c c'∧c'.on=true∧c'.ops<=c.ops+256∧e=.returned .nilIface∧aT b sb l' H'∧ai cb g cap mv c' cO∧Holds w' (H'++(Hs++(cO++Fr)))∧af w w'
theorem RT{nm:List UInt8}{gn q0 last aj:Int}{es:List az}{bK:List Nat}{nps:List NP}{dk:List kj}{Hp:HL}(I:iy s c nm gn es bK nps q0 last aj)(hg:∀x∈dk,kO s c 3 gn Hp x)(h:dk.map (Lv c)=yj s.Z gn nps):
  dk.length=nps.length∧∀k (h1:k<dk.length) (h2:k<nps.length),dk[k].n=(nps[k].p:Int)∧bN Hp dk[k].DB (eX nps[k].ns s.Z)∧nps[k].ok s.Z:=by
 have hl:dk.length=nps.length:=by have:=congrArg List.length h;simpa[yj]using this
 refine⟨hl,fun k h1 h2=>?_⟩;have e:Lv c dk[k]=⟨nps[k].p,gA nps[k].q gn,eX nps[k].ns s.Z⟩:=by
  have h9:=congrArg (fun l=>l[k]?) h;simp only[yj,dW]at h9;rw[bF h1,bF h2]at h9;simpa using h9
 have nj:=hg _ (cX h1);have hd:=nj.data;rw[e]at hd;obtain⟨n,_,hn,_⟩:=nj;refine⟨?_,hd,(I.kX.nv _ (cX h2)).2.2⟩;have e2:dk[k].n.toNat=nps[k].p:=congrArg SS.n e;rw[hn]at e2⊢;omega
theorem wE.two{kind gen:Int}{e:Ending}{w':World}(h:wE sb cb g cap mv s c kind gen w Hs Fr e w'):∃v ve,e=.returned (.tuple #[v,ve])∧Holds w' Fr:=by
 rcases h with⟨_,_,v,_,_,_,_,_,_,_,_,rfl,_,_,hH,_⟩|⟨_,ve,_,_,_,_,_,rfl,_,_,hH,_⟩
 ·exact⟨_,_,rfl,hH.right.right.right.right⟩
 ·exact⟨_,_,rfl,hH.right.right.right⟩
theorem Lb{nm:List UInt8}{gn q0 last aj:Int}{es:List az}{bK:List Nat}{nps:List NP}(h:aT b sb l H)(hs:cr sb cb s Hs)(cz:ai cb g cap mv c Hc)(hH:Holds w (H++(Hs++(Hc++Fr))))(I:iy s c nm gn es bK nps q0 last aj)(y7:l.gen=gn)(fi:c.on=true)(fI:c.ops<=900000000000)(hT:l.T.length<=1000)(F0:eU l.T)(ik:l.ad.length<=1000)(PW:nps.length<=100):
  Calls Tryz.prog 60 #[.pointer (some ⟨b,0,none⟩)] w (fun e w'=>Pq cb g cap mv c w H Hs Fr e w'∨Pr b sb cb g cap mv c {l with T:=aI l.T (nps.map NP.ns).flatten,ad:=l.ad++nps.map NP.p} w Hs Fr e w'):=by
 have k1:=nil_eq;have k2:=cC;have k3:=cS;have oR:=bO I.cont.pl;have qH:128<=s.Z:=by omega
 have tW:s.Z<=256:=by omega
 have HK:=aa (rz (w:=w) (Fr:=H++Fr) 3 gn hs cz (show Holds w (Hs++(Hc++(H++Fr)))from hH.p) I.cont fi fI);obtain⟨_,_,bm⟩:=h.cells;obtain⟨_,x1,x2,x3,_⟩:=bm w _ hH;rw[y7]at x3;have iJ:=aa fun(wx:World) (F:HL) (hx:Holds wx (H++F))=>show wx.cell? ⟨b,1,none⟩=some (.pointer (some ⟨sb,0,none⟩))∧wx.cell? ⟨b,3,none⟩=some (.int .i64 gn)from by
  obtain⟨_,y1,y2,y3,_⟩:=bm wx _ hx;rw[y7]at y3;exact⟨y1,y3⟩
 have HK:=aa fun(wx:World) (hx:Holds wx (H++(Hs++(Hc++Fr))))=>rz (w:=wx) (Fr:=H++Fr) 3 gn hs cz (show Holds wx (Hs++(Hc++(H++Fr)))from hx.p) I.cont fi fI;have qR:=aa h;have HI:=aa I;have HZ:=aa (aS qH tW);clear bm hs cz h oR qH tW y7;have Oo:=af.refl w;go_enter func60,ntmps60;go_upto_region 1 with fail
 refine aF (fun wx=>wx.cell? ⟨b,1,none⟩=some (.pointer (some ⟨sb,0,none⟩))∧wx.cell? ⟨b,3,none⟩=some (.int .i64 gn)) 14 (by kernel_rfl) (fun w1 hd=>iJ.o _ _ (hH.dr hd)) (fun w1 hd hs=>?_);have dZ:=hH.dr hd;have iZ:=Oo.trans (af.dr hd);clear hd hH Oo;refine dY 0 1 2 3 ?_;refine dY 4 5 6 7 ?_;refine Zm 8 fun K hK=>?_;go_simp;refine(HK.o w1 dZ).mono ?_;intro e w2 hrk;obtain⟨v,ve,rfl,Ly⟩:=hrk.two;have Ly:=iJ.o _ _ Ly;have HRK:=aa hrk;clear hrk;refine hK _ _ (Ly) (fun _=>?_);clear hK K hs;rename_i hs;refine dY 9 10 11 12 ?_;refine ji 13 ?_;refine Ze ?_;clear hs HK iJ;rcases HRK.o with⟨c',dk,v1,Hv,Hp,cO,nj,Lu,cm,qU,eV,he,hv,eG,ax,aK⟩|⟨c',ve1,He,cO,cm,cZ,eV,pc,he,eG,ax,aK⟩
 ·injection he with he;injection he with he;obtain⟨rfl,rfl⟩:v=v1∧ve=.nilIface:=by simpa using he
  obtain⟨Ya,ay⟩:=RT HI.o nj (HI.o.notes Lu);have au1:dk.length<=nps.length:=by omega
  have vF:nps.length<=dk.length:=by omega
  clear Ya;have jm:=aa ay;have lS:=aa eG;have HR:=aa (aS cm (aS qU eV));have HV:=aa hv;obtain⟨A,cv,rfl⟩:=au.val (hv:au 183 6 _ dk.length (xA dk) Hv);obtain⟨F,hF⟩:∃F,F=Hv++(Hp++(Hs++(cO++Fr))):=⟨_,rfl⟩;have Xd:Holds w2 (H++F):=by rw[hF];exact ax.p
  have HFP:=aa (show vZ F (.slice A dk.length cv) dk from fun wx hx=>by rw[hF]at hx;exact au.reads HV.o hx);have HHP:=aa (show∀wx,Holds wx F->Holds wx Hp from fun wx hx=>by rw[hF]at hx;exact hx.right.left);have HFF:=aa hF;have bD:ahY b sb l nps w F (.int .i64 0) w2:=⟨0,H,by omega,rfl,by simpa[oE,pq,aI]using qR.o,Xd,iZ.trans aK⟩;have WT:=aa (RS fun x hx=>(HI.o.kX.nv x hx).2.2.2.2.2);clear nj Lu cm qU eV hv eG ax hF HRK Xd iZ aK ay HI;go_wp2_with fail
  go_loopw [28] (fun iv wr=>ahY b sb l nps w F iv wr) (fun iv _=>dk.length-(intOf iv).toNat)
  case atStart=>exact bD
  case round=>
   clear bD;obtain⟨k,H7,hk,rfl,vB,hH,hg⟩:=hrel;by_cases aG:k<dk.length
   ·have dQ:(k:Int)<dk.length:=by omega
    have mQ:k<nps.length:=by omega
    obtain⟨pb,po,rfl,oh⟩:=HFP.o.get hH.right (by omega);obtain⟨z0,z1,z2,z3,z4,z5⟩:=oh wr hH.right k aG;obtain⟨hxn,hxd,-,th,hx3,hx4⟩:=jm.o k aG mQ;have jP:=aa (show aI (aI l.T (oE nps k)) nps[k].ns=aI l.T (oE nps (k+1)) by rw[RP mQ,fk]);have HPK:=aa (show(l.ad++pq nps k)++[nps[k].p]=l.ad++pq nps (k+1) by rw[RQ mQ,cE]);rw[hxn]at z0;generalize nps[k].p=pn at*;generalize nps[k].ns=nt at*;generalize dk[k]=x at*;obtain⟨xn,⟨x0,xI,x2,x3⟩,xa,xl,xc⟩:=x;unfold kj.DB at z5 hxd;dsimp only at z0 z1 z2 z3 z4 z5 hxd;have bM:=hH.alloc (.cells #[.int .i64 (pn:Int),.int .i64 x0,.int .u64 xI,.int .i64 x2,.int .i64 x3,.slice xa xl xc] 183);have cJ:=hg.alloc (.cells #[.int .i64 (pn:Int),.int .i64 x0,.int .u64 xI,.int .i64 x2,.int .i64 x3,.slice xa xl xc] 183);have LY:=aa vB;have jo:=aa fun(wx:World) (hx:Holds wx ((wr.heap.size,.cells #[.int .i64 (pn:Int),.int .i64 x0,.int .u64 xI,.int .i64 x2,.int .i64 x3,.slice xa xl xc] 183)::(H7++F)))=>Ns s.Z (.slice xa xl xc) nt wx _ (fun wy (hy:Holds wy ((wr.heap.size,.cells #[.int .i64 (pn:Int),.int .i64 x0,.int .u64 xI,.int .i64 x2,.int .i64 x3,.slice xa xl xc] 183)::(H7++F)))=>hxd wy (HHP.o wy hy.tail.right)) hx (fun n hn=>(th n hn).1) hx4 (List.all_eq_true.2 fun n hn=>(th n hn).2) HZ.o.1 HZ.o.2 hx3;have lR:=aa th;have hnt:=hx4;clear hH hg oh vB hxn hxd th hx3 hx4;go_upto_region 7 with fail
    generalize wr.alloc (.cells #[.int .i64 (pn:Int),.int .i64 x0,.int .u64 xI,.int .i64 x2,.int .i64 x3,.slice xa xl xc] 183)=w9 at*;generalize wr.heap.size=nb at*;clear z0 z1 z2 z3 z4 z5;have z5:=bM.ae 5;go_wp2_with fail
    refine(jo.o w9 bM).mono ?_;rintro e w3⟨v3,H3,rfl,kS,aD,bj⟩;obtain⟨A3,c3,rfl⟩:=kS.val;have HV3:=aa kS;obtain⟨F2,hF2⟩:∃F2,F2=H3++((nb,.cells #[.int .i64 (pn:Int),.int .i64 x0,.int .u64 xI,.int .i64 x2,.int .i64 x3,.slice xa xl xc] 183)::F):=⟨_,rfl⟩;have Iv:=aa hF2;have aU:Holds w3 (H7++F2):=by rw[hF2];exact aD.p
    have Iw:=aa fun(wx:World) (hx:Holds wx F2)=>show tm wx (.slice A3 nt.length c3) nt from by rw[Iv.o]at hx;exact kS.fr wx hx
    obtain⟨l4,Bh⟩:∃l4:LM,l4={l with T:=aI l.T (oE nps k),ad:=l.ad++pq nps k}:=⟨_,rfl⟩;have Qn:=aa Bh;have hTb:l4.T.length<=110000∧eU l4.T∧l4.ad.length<=1100:=by
     rw[Bh];have h1:=jN F0 (oE nps k);have h2:=WT.o k;refine⟨?_,qA F0 _,?_⟩
     ·show(aI l.T (oE nps k)).length<=_;omega
     ·show(l.ad++pq nps k).length<=_;rw[aY];have:=RR (nps:=nps) (k:=k);omega
    have kp:X8 b sb l4 nt w F2 (.int .i64 0) w3:=⟨0,H7,by omega,rfl,by rw[Bh];exact LY.o,aU,cJ.trans bj⟩;clear kS aD bj hF2 aU Bh jo bM cJ LY z5;go_wp2_with fail
    go_loopw [40] (fun iv wr=>X8 b sb l4 nt w F2 iv wr) (fun iv _=>nt.length-(intOf iv).toNat)
    case atStart=>exact kp
    case round=>
     clear kp;obtain⟨i,H1,hi,rfl,ki,Bx,dJ⟩:=hrel;by_cases Bo:i<nt.length
     ·have U2:(i:Int)<nt.length:=by omega
      obtain⟨b1,o1,e1,y⟩:=(Iw.o wr Bx.right).get Bo;subst e1;obtain⟨y0,y1,y2,y3,y4⟩:=y;have aoe:=aa (show su (aI l4.T (nt.take i)) nt[i]=aI l4.T (nt.take (i+1)) by rw[gB Bo,ry]);have HIT:=aa (lR.o _ (cX Bo)).1;generalize nt[i]=x at*;obtain⟨TE,⟨ea,ep,ed,eq⟩⟩:=x;dsimp only at y0 y1 y2 y3 y4;obtain⟨tb,Ht,ZQ,OB,OC,rU,Bz⟩:=ki.table;have hea:0<=ea:=HIT.o.1.1;have Uj:(aI l4.T (nt.take i)).length<200000:=by have:=jN hTb.2.1 (nt.take i);rw[dG]at this;have:=hTb.1;omega
      have bM:=Bx.alloc (.cells #[.bool TE,.int .u64 ea,.int .i64 ep,.bool ed,.int .i64 eq] 26);have cJ:=dJ.alloc (.cells #[.bool TE,.int .u64 ea,.int .i64 ep,.bool ed,.int .i64 eq] 26);have ZR:=aa OC;have dj:=aa rU;have Uk:=aa Bz;have TA:=aa OB;clear OC rU Bz OB Bx dJ ki;go_upto_region 11 with fail
      generalize wr.alloc (.cells #[.bool TE,.int .u64 ea,.int .i64 ep,.bool ed,.int .i64 eq] 26)=w9 at*;generalize wr.heap.size=OH at*;clear y0 y1 y2 y3 y4;have iJ:=aa fun(wx:World) (hx:Holds wx ((OH,.cells #[.bool TE,.int .u64 ea,.int .i64 ep,.bool ed,.int .i64 eq] 26)::(H1++F2)))=>show wx.cell? ⟨b,0,none⟩=some (.pointer (some ⟨tb,0,none⟩))∧wx.cell? ⟨OH,0,none⟩=some (.bool TE)∧wx.cell? ⟨OH,1,none⟩=some (.int .u64 ea)∧wx.cell? ⟨OH,2,none⟩=some (.int .i64 ep)∧wx.cell? ⟨OH,3,none⟩=some (.bool ed)∧wx.cell? ⟨OH,4,none⟩=some (.int .i64 eq)from⟨TA.o wx _ hx.tail,hx.note⟩;have SR:=aa fun(wx:World) (hx:Holds wx ((OH,.cells #[.bool TE,.int .u64 ea,.int .i64 ep,.bool ed,.int .i64 eq] 26)::(H1++F2)))=>show Calls Tryz.prog 55 #[.pointer (some ⟨tb,0,none⟩),.agg #[.bool TE,.int .u64 ea,.int .i64 ep,.bool ed,.int .i64 eq]] wx (fun e w'=>e=.returned (.tuple #[])∧∃H',aT b sb {l4 with T:=aI l4.T (nt.take (i+1))} H'∧Holds w' (H'++F2)∧af wx w')from by
       have hy:Holds wx (Ht++(ZQ++(((OH,.cells #[.bool TE,.int .u64 ea,.int .i64 ep,.bool ed,.int .i64 eq] 26)::[])++F2))):=(dj.o wx _).1 (show Holds wx (H1++(((OH,.cells #[.bool TE,.int .u64 ea,.int .i64 ep,.bool ed,.int .i64 eq] 26)::[])++F2))from hx.p);refine(sR _ _ ⟨TE,⟨ea,ep,ed,eq⟩⟩ ZR.o hy hea Uj).mono ?_;rintro e w'⟨rfl,H',Es,gK,nD⟩;rw[aoe.o]at Es;obtain⟨H6,Az,Gm⟩:=Uk.o _ _ Es;exact⟨rfl,H6,Az,(Gm w' _ (show Holds w' (H'++(ZQ++F2))from gK.p)),nD⟩
      refine aF (fun wx=>wx.cell? ⟨b,0,none⟩=some (.pointer (some ⟨tb,0,none⟩))∧wx.cell? ⟨OH,0,none⟩=some (.bool TE)∧wx.cell? ⟨OH,1,none⟩=some (.int .u64 ea)∧wx.cell? ⟨OH,2,none⟩=some (.int .i64 ep)∧wx.cell? ⟨OH,3,none⟩=some (.bool ed)∧wx.cell? ⟨OH,4,none⟩=some (.int .i64 eq)) 5 (by kernel_rfl) (fun w1 hd=>iJ.o _ (bM.dr hd)) (fun w1 hd hs=>?_);have dZ:=bM.dr hd;have iZ:=cJ.trans (af.dr hd);clear hd bM cJ;refine dY 0 1 2 3 ?_;refine ji 4 ?_;refine Zl 5 fun K hK=>?_;go_simp;refine(SR.o w1 dZ).mono ?_;rintro e lQ ⟨rfl,H6,Az,Gn,eJ⟩;have Gp:=iZ.trans eJ;have SU:=aa Az;clear dZ eJ iZ Az;refine hK _ _ ?_;clear hK K hs;refine Ze ?_;go_wp2_with fail
      go_roundw
      case rel=>exact⟨i+1,H6,Bo,by simp,SU.o,Gn,Gp⟩
      case measure=>simp[intOf];omega
     ·have U2:¬(i:Int)<nt.length:=by omega
      obtain rfl:i=nt.length:=by omega
      rw[fB]at ki;rw[Iv.o]at Bx;have bM:Holds wr ((nb,.cells #[.int .i64 (pn:Int),.int .i64 x0,.int .u64 xI,.int .i64 x2,.int .i64 x3,.slice xa xl xc] 183)::(H1++F)):=(show Holds wr (((nb,.cells #[.int .i64 (pn:Int),.int .i64 x0,.int .u64 xI,.int .i64 x2,.int .i64 x3,.slice xa xl xc] 183)::[])++(H1++F))from(Bx.p:Holds wr (H3++(((nb,.cells #[.int .i64 (pn:Int),.int .i64 x0,.int .u64 xI,.int .i64 x2,.int .i64 x3,.slice xa xl xc] 183)::[])++(H1++F)))).right);obtain⟨A7,c7,Hq,Ho2,hX,ay,kM⟩:=ki.Kl;have hlp:({l4 with T:=aI l4.T nt}:LM).ad.length<=1100:=hTb.2.2;generalize kg:({l4 with T:=aI l4.T nt}:LM).ad=qK at*;have HX:=aa hX;have ajz:=aa ay;have acJ:=aa (show∀(A':Option Addr) (c':Nat) (rR:HL),au 3 1 (.slice A' (qK.length+1) c') (qK.length+1) ((nu qK).map (.int .i64)++[.int .i64 (pn:Int)]) rR->∃H',aT b sb {l with T:=aI l.T (oE nps (k+1)),ad:=l.ad++pq nps (k+1)} H'∧
        ∀(w:World) (F:HL),Holds w (rR++(Ho2++F))->Holds (w.setCell ⟨b,6,none⟩ (.slice A' (qK.length+1) c')) (H'++F)∧w.frozen? ⟨b,6,none⟩=false∧b<w.heap.size∧w.cell? ⟨b,6,none⟩=some (.slice A7 qK.length c7)from fun A' c' rR hr=>by
       obtain⟨H',h1,h2⟩:=kM A' c' pn rR hr;refine⟨H',?_,h2⟩;have h3:qK=l.ad++pq nps k:=by rw[<-kg];show l4.ad=_;rw[Qn.o]
       have h4:l4.T=aI l.T (oE nps k):=by rw[Qn.o]
       rw[h3,h4,jP.o,HPK.o,Qn.o]at h1;exact h1)
      have oc:qK.length+1<=maxLen:=by simp only[maxLen];omega
      have si:(qK.length+1)*8<=140737488355328:=by omega
      have hg:=dJ;clear hX ay kM Bx ki kg dJ;go_upto_region 13 with fail
      have iJ:=aa fun(wx:World) (hx:Holds wx ((nb,.cells #[.int .i64 (pn:Int),.int .i64 x0,.int .u64 xI,.int .i64 x2,.int .i64 x3,.slice xa xl xc] 183)::(H1++F)))=>show wx.cell? ⟨b,6,none⟩=some (.slice A7 qK.length c7)∧wx.cell? ⟨nb,0,none⟩=some (.int .i64 (pn:Int))from⟨(HX.o wx _ hx.tail).1,hx.ae 0⟩;refine aF (fun wx=>wx.cell? ⟨b,6,none⟩=some (.slice A7 qK.length c7)∧wx.cell? ⟨nb,0,none⟩=some (.int .i64 (pn:Int))) 11 (by kernel_rfl) (fun w1 hd=>iJ.o _ (bM.dr hd)) (fun w1 hd hs=>?_);have dZ:=bM.dr hd;have iZ:=hg.trans (af.dr hd);clear hd bM hg;refine dY 0 1 2 3 ?_;refine Ag 4 5 6 ?_;refine Zm 7 fun K hK=>?_;have qJ:=dZ.bP (.cells #[.int .i64 (pn:Int)] 3);have ZN:=iZ.alloc (.cells #[.int .i64 (pn:Int)] 3);go_simp;refine hK _ _ (iJ.o _ qJ) (fun _=>?_);clear hK K hs;rename_i hs;refine Zm 8 fun K hK=>?_;have Bf:=(HX.o _ _ (show Holds _ (H1++((nb,.cells #[.int .i64 (pn:Int),.int .i64 x0,.int .u64 xI,.int .i64 x2,.int .i64 x3,.slice xa xl xc] 183)::F))from qJ.p)).2;refine bf ud (by rfl) _ _ (by rfl) (by rfl) (by rfl) ajz.o Bf ag.one (by simp[Value.oneCell']) oc si ?_;intro A' c2 w' H' jT bC bV;obtain⟨H9,IZ,JG⟩:=acJ.o A' c2 H' jT;obtain⟨dU,f6,acH,Iu⟩:=JG w' _ bC;have ia:=((ZN.trans bV).setCell ⟨b,6,none⟩ (.slice A' (qK.length+1) c2));have ZT:=aa IZ;have PN:=bC.right.right.ae 0;clear dZ qJ Bf jT JG IZ bV;refine hK _ _ (⟨Iu,PN⟩) (fun _=>?_);clear hK K hs;rename_i hs;refine qL 9 10 ?_;refine Zl 11 fun K hK=>?_;go_simp;refine hK _ _ ?_;clear hK K hs;refine Ze ?_;go_wp2_with fail
      exact⟨⟨k+1,H9,by omega,by simp,ZT.o,(show Holds _ (H9++F)from dU.p),ia⟩,by simp[intOf];omega⟩
   ·have dQ:¬(k:Int)<dk.length:=by omega
    have xt:k=nps.length:=by omega
    have ew:=hH;rw[HFF.o]at ew;have lx:=aa (show Pr b sb cb g cap mv c {l with T:=aI l.T (nps.map NP.ns).flatten,ad:=l.ad++nps.map NP.p} w Hs Fr (.returned .nilIface) wr from
     ⟨c',H7,cO,HR.o.1,HR.o.2.1,HR.o.2.2,rfl,by rw[xt]at vB;unfold oE pq at vB;rw[fB]at vB;exact vB,lS.o,(show Holds wr (H7++(Hs++(cO++Fr)))from ew.p),hg⟩)
    clear ew hH hg vB xt;go_wp2_with fail
    go_ret;exact .inr lx.o
 ·injection pc with pc;injection pc with pc;obtain⟨rfl,rfl⟩:v=.slice none 0 0∧ve=ve1:=by simpa using pc
  obtain⟨h0,_⟩|⟨h0,eb,DM,rfl,rfl⟩:=he
  ·exact absurd h0 (by decide)
  have lx:=aa (show Pq cb g cap mv c w H Hs Fr (.returned (.iface 141 (.pointer (some ⟨eb,0,none⟩)))) w2 from⟨c',_,_,cO,cm,cZ,eV,rfl,.inr ⟨h0,eb,DM,rfl,rfl⟩,eG,ax.p,iZ.trans aK⟩);clear cm cZ eV eG ax aK HRK iZ;go_wp2_with fail
  go_ret;exact .inl lx.o
end
section
variable{s s':SM}{c c':CM}
theorem uA.reads{N Z:Nat}{nm:List UInt8}{g q0 last aj:Int}{es:List az}{bK:List Nat}{nps:List NP}(h:uA c N Z nm g es bK nps q0 last aj)(r:Reads c c'):uA c' N Z nm g es bK nps q0 last aj:=
 h.shrink (fun n _=>r.vN n) (fun n v _ hv=>by rw[<-r.vN n];exact hv) (bG _) (bG _)
theorem iy.reads{nm:List UInt8}{g q0 last aj:Int}{es:List az}{bK:List Nat}{nps:List NP}(h:iy s c nm g es bK nps q0 last aj)(r:Reads c c'):iy s c' nm g es bK nps q0 last aj:=
 ⟨h.cont.reads r,h.kX.reads r,fun n hn=>by rw[r.vN n];exact h.all n hn⟩
section
variable{nm:List UInt8}{g q0 last aj:Int}{es:List az}{bK:List Nat}{nps:List NP}
theorem iy.aog(I:iy s c nm g es bK nps q0 last aj):∃k0,∃h:k0<(nN s).length,(nN s)[k0]=g∧∀j (hj:j<(nN s).length),j<k0->g<(nN s)[j]:=by
 obtain⟨h1,h2⟩:=uV s;have hm:g∈nN s:=by
  rw[h2];unfold iQ;have h0:0<bK.length:=by rw[I.kX.cl];exact jB _ _
  obtain⟨a,b⟩:=I.kX.cv 0 h0;have hl:=I.look a b;refine List.mem_map.2 ⟨((bK[0]:Nat):Int),List.mem_filter.2 ⟨I.cont.ye hl,?_⟩,?_⟩
  ·unfold du;rw[hl];rfl
  ·unfold du;rw[hl];rfl
 obtain⟨k0,hk,e⟩:=List.getElem_of_mem hm;refine⟨k0,hk,e,fun j hj qE=>?_⟩;have:=List.pairwise_iff_getElem.1 h1 j k0 hj hk qE;rw[<-e];exact this
theorem iy.Ps(I:iy s c nm g es bK nps q0 last aj):0<bK.length:=by rw[I.kX.cl];exact jB _ _
theorem Wj(hC:aV s c):(nN s).length<=256:=by
 obtain⟨h1,h2⟩:=uV s;have vf:(nN s).Nodup:=h1.imp fun h=>by omega
 have h3:(iQ s (aC s)).length<=256:=by
  unfold iQ;rw[bY];have:=mU (fun n=>decide ((du s n).k=4)) (aC s);have h4:(aC s).length<=s.B*s.P:=by
   rw[cL hC,bY];unfold bc;have:=mU (kW s) (List.range (s.B*s.P));rwa[fP]at this
  have oR:=bO hC.pl;have h2:s.B*s.P<=32*8:=Nat.mul_le_mul (by omega) (by omega);omega
 have:=kD (nN s) (iQ s (aC s)) vf fun x hx=>(h2 x).1 hx;omega
theorem wT(hC:aV s c):(aC s).length<=256∧s.B*s.P<=256:=by
 have oR:=bO hC.pl;have h2:s.B*s.P<=32*8:=Nat.mul_le_mul (by omega) (by omega);have h4:(aC s).length<=s.B*s.P:=by
  rw[cL hC,bY];unfold bc;have:=mU (kW s) (List.range (s.B*s.P));rwa[fP]at this
 omega
theorem Ko(C:uA c (s.B*s.P) s.Z nm g es bK nps q0 last aj):∀n∈bK++nps.map (·.p),n<s.B*s.P:=by
 intro n hn;rcases List.mem_append.1 hn with hn|hn
 ·obtain⟨i,hi,rfl⟩:=List.getElem_of_mem hn;exact(C.cv i hi).1
 ·obtain⟨x,hx,rfl⟩:=List.mem_map.1 hn;exact(C.nv x hx).1
theorem RX(hC:aV s c)(C:uA c (s.B*s.P) s.Z nm g es bK nps q0 last aj):bK.length+nps.length<=256:=by
 have h1:=kD _ (List.range (s.B*s.P)) (MK C) fun x hx=>List.mem_range.2 (Ko C x hx);rw[aY,bY,fP]at h1;have:=(wT hC).2;omega
end
def P2(s:SM)(nm:List UInt8)(g:Int)(es:List az)(bK:List Nat)(nps:List NP):LM:=
 ⟨nm,g,dp s (aC s),eT s (aC s),bK++nps.map NP.p,aI es (nps.map NP.ns).flatten⟩
def zg(L:List Nat)(k:Nat):Nat->Bool:=fun p=>(L.take k).contains p
theorem RY{L:List Nat}{k:Nat}(h:k<L.length):Gj (zg L k) L[k] true=zg L (k+1):=by
 funext q;unfold Gj zg;rw[gB h,List.contains_append];by_cases e:q=L[k]
 ·rw[if_pos e,e];simp
 ·rw[if_neg e];simp[e]
def dX(L:List Nat)(es:List az)(k:Nat):Nat->Bool:=fun p=>L.contains p||jf es k p
theorem RZ{L:List Nat}{es:List az}{k:Nat}(h:k<es.length){p:Nat}(hp:es[k].aW=(p:Int)):Gj (dX L es k) p true=dX L es (k+1):=by
 have:=uR h hp;funext q;have hq:=congrFun this q;unfold Gj dX at*;rw[<-hq];split
 ·simp
 ·rfl
theorem R4(L:List Nat)(es:List az):zg L L.length=dX L es 0:=by
 funext q;unfold zg dX jf;rw[fB];simp
theorem R5(l:LM)(p:Nat):dX l.ad l.T l.T.length p=gS l p:=by
 unfold dX gS jf;rw[fB]
def ql(s:SM)(l:LM)(k:Nat):SM:=dI s (((bc s).take k).filter (uG s l))
theorem R6{l:LM}{k:Nat}(h:k<(bc s).length):ql s l (k+1)=if uG s l (bc s)[k]then(fF (ql s l k) ((bc s)[k]:Nat)).1 else ql s l k:=by
 unfold ql;rw[gB h,oA];by_cases e:uG s l (bc s)[k]=true
 ·rw[if_pos e,za e,List.filter_nil];exact sQ _ _ _
 ·rw[if_neg e,qd e,List.filter_nil,kZ]
theorem R7(l:LM):ql s l (bc s).length=Bv s l:=by unfold ql Bv;rw[fB]
theorem Kp:(bc s).Nodup:=List.nodup_range.filter _
theorem NW(hC:aV s c)(l:LM)(k:Nat):OT s c (fun m=>∃n∈((bc s).take k).filter (uG s l),m=(n:Nat)) (ql s l k):=
 yh _ s hC ((List.take_sublist _ _).nodup Kp|>.filter _) fun n hn=>(ig.1 (rJ (List.mem_filter.1 hn).1)).2
theorem NX(hC:aV s c)(l:LM){k:Nat}(h:k<(bc s).length):du (ql s l k) ((bc s)[k]:Nat)=du s ((bc s)[k]:Nat):=by
 unfold du;rw[(NW hC l k).stay];rintro⟨n,hn,e⟩;have h1:=(List.mem_filter.1 hn).1;obtain⟨i,hi,e2⟩:=List.mem_take_iff_getElem.1 h1;have e3:(bc s)[i]=(bc s)[k]:=by omega
 have:=(List.nodup_iff_pairwise_ne.1 (Kp (s:=s)));have h4:=List.pairwise_iff_getElem.1 this i k (by omega) h (by omega);exact h4 e3
end
end Go.Proofs.YtalnifciidblkaaGreatDoor
