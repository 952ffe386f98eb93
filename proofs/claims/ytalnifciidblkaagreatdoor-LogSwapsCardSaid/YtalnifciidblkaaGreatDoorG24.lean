/-
  Lemmas.
-/
import Derived.Test.YtalnifciidblkaaGreatDoorG34
import Derived.Test.YtalnifciidblkaaGreatDoorG29
import Derived.Laws.ResultCell
import Derived.Test.YtalnifciidblkaaGreatDoorG21
import Derived.LaidEqlPtr
namespace Go.Proofs.YtalnifciidblkaaGreatDoor
open _root_.Go.Proofs.Tryz
open Go.RowKit
set_option linter.unusedSimpArgs false
set_option linter.unusedVariables false
set_option maxRecDepth 20000
set_option maxHeartbeats 8000000
section
variable{b cb g cap:Nat}{mv:Value}{c:CM}{s:SM}{H Hc Fr:HL}{w:World}
def Jr(cb:Nat)(w:World):Int:=match w.cell? ⟨cb,6,none⟩with|some (.int _ n)=>n|_=>0
theorem GI(cz:ai cb g cap mv c Hc)(hH:Holds w (Hc++Fr)):Jr cb w=c.ops:=by
 obtain⟨c0,c1,c2,c3,c4,c5,c6,c7,c8,_⟩:=cz.gX hH;unfold Jr;rw[c6]
def vU(b cb g cap:Nat)(mv:Value)(r:SM×CM×Int×Int)(w:World)(Fr:HL)(e:Ending)(w':World):Prop:=
 ∃ve He H' cO,e=.returned (.tuple #[.int .i64 r.2.2.1,ve])∧bJ ve r.2.2.2 He∧cr b cb r.1 H'∧ai cb g cap mv r.2.1 cO∧Holds w' (H'++(cO++(He++Fr)))∧af w w'
def ans(b cb g cap:Nat)(mv:Value)(h:Hd)(raw:List UInt8)(res:SM×CM×Int×Int)(N0:Nat)(s0:SM)(c0:CM)(w:World)(F:HL)(wr:World):Prop:=
 ∃(m:Nat) (s':SM) (c':CM) (H' cO:HL),c'.tV<m∧m<=N0∧xQ h raw m s' c'=res∧c0.iV c' (50*((N0:Int)-m))∧s0.Ba s'∧cr b cb s' H'∧ai cb g cap mv c' cO∧Holds wr (H'++(cO++F))∧af w wr
theorem py(hd:Hd)(d:List UInt8)(dv:Value)(h:cr b cb s H)(cz:ai cb g cap mv c Hc)(hH:Holds w (H++(Hc++Fr)))(hy:oV s.P s.y)(hB:s.B<20)(fI:c.ops<=999999990000)(hBc:c.blocks.length=s.B)(hZ:c.Z=s.Z)
  (Dx:bN (H++(Hc++Fr)) dv d)(iu:zW hd):
  Calls Tryz.prog 25 #[.pointer (some ⟨b,0,none⟩),hd.agg,dv] w (vU b cb g cap mv (bn s c hd d) w Fr):=by
 have kV:=aa h;have lS:=aa cz;have HYO:=aa hy;have Ol:=aa (bO h.sm);have cP:=aa (show bn s c hd d=if(sizedB d.length&&hd.may)=false∨d.length≠s.Z then(s,c,0,2)else if c.on=false then(s,c,0,4)else XT s c hd d from rfl);generalize bn s c hd d=res at*;obtain⟨A,cp,rfl⟩:=(Dx w hH).val;have HDB:=aa Dx;have tU:=ag.le (Dx w hH);unfold maxLen at tU;have HY1:=aa (fun(hs:sizedB d.length=true) (hm:hd.may=true) (wx:World) (F:HL) (hx:Holds wx ((H++(Hc++Fr))++F))=>O7 _ d hd wx _ (fun wy hy=>Dx wy hy.left) hx hs hm iu);have HY0:=aa (fun(hn:(sizedB d.length&&hd.may)=false) (wx:World) (F:HL) (hx:Holds wx ((H++(Hc++Fr))++F))=>Vc _ d hd wx _ (Dx wx hx.left) hx hn);obtain⟨yb,mb,bm⟩:=h.cells;have pd:=aa bm;have Lq:=aa (fun(wx:World) (F:HL) (hx:Holds wx (Hc++F))=>wg cz hx);have HKP:=aa (fun(s':SM) (H':HL) (k p:Int) (hs:cr b cb s' H') (wx:World) (F:HL) (hX:Holds wx (H'++F)) (h1:0<=k) (h2:k<s'.B) (h3:0<=p) (h4:p<s'.P)=>JX k p hd hs hX h1 h2 h3 h4);obtain⟨cZ,ez,dy,dP⟩:=hd;simp only[Hd.agg,Hd.cells]at HY1 HY0 HKP⊢;have ax:=hH.alloc (.cells #[.int .i64 cZ,.int .u64 ez,.int .i64 dy,.int .i64 dP] 59);have aK:=(af.refl w).alloc (.cells #[.int .i64 cZ,.int .u64 ez,.int .i64 dy,.int .i64 dP] 59);have aB:Holds (w.alloc (.cells #[.int .i64 cZ,.int .u64 ez,.int .i64 dy,.int .i64 dP] 59)) ((H++(Hc++Fr))++[(w.heap.size,.cells #[.int .i64 cZ,.int .u64 ez,.int .i64 dy,.int .i64 dP] 59)]):=ax.p;have k1:=cS;have k2:=cC;have HO:=aa fI;have IJ:=aa (aS hBc hZ);have HBB:=aa hB;clear h cz hH hy hB fI hBc hZ Dx iu bm ax;go_enter func25,ntmps25;go_upto_region 3 with fail
 generalize w.alloc (.cells #[.int .i64 cZ,.int .u64 ez,.int .i64 dy,.int .i64 dP] 59)=w0 at*;generalize w.heap.size=gh at*;have dj:=aa (fun(wx:World) (X F:HL) (hX:Holds wx (X++((gh,.cells #[.int .i64 cZ,.int .u64 ez,.int .i64 dy,.int .i64 dP] 59)::F)))=>show wx.cell? ⟨gh,0,none⟩=some (.int .i64 cZ)∧wx.cell? ⟨gh,1,none⟩=some (.int .u64 ez)∧wx.cell? ⟨gh,2,none⟩=some (.int .i64 dy)∧wx.cell? ⟨gh,3,none⟩=some (.int .i64 dP)from⟨hX.right.ae 0,hX.right.ae 1,hX.right.ae 2,hX.right.ae 3⟩);obtain⟨s0,s1,s2,s3⟩:=dj.o w0 _ _ aB;by_cases DU:(sizedB d.length&&Hd.may ⟨cZ,ez,dy,dP⟩)=false
 ·have pJ:=aa (show res=(s,c,0,2) by rw[cP.o,if_pos (.inl DU)]);have HL:=aa (HY0.o DU w0 _ aB);clear DU HY1 HY0;go_upto_region 4 with fail
  refine HL.o.mono ?_;rintro e w1⟨ve,He,rfl,he,aD,bj⟩;obtain⟨be,se,rfl,rfl⟩:=cI he (by omega);have HW:=aa (mC 2 w1 _ (by omega) aD);clear he aB aD s0 s1 s2 s3 HL;go_wp2_with fail
  refine HW.o.mono ?_;rintro e w2⟨ve2,St,rfl,oU,aU,bV⟩;have LB:=aa oU;have Ot:=aa aU;clear oU aU HW;go_wp2_with fail
  go_ret2
  rw[pJ.o];exact⟨_,St,H,Hc,rfl,LB.o,kV.o,lS.o,Ot.o.p,(aK.trans bj).trans bV⟩
 ·have aG:sizedB d.length=true∧Hd.may ⟨cZ,ez,dy,dP⟩=true:=by simpa using DU
  have Mb:=aa DU;have HL:=aa (HY1.o aG.1 aG.2 w0 _ aB);clear DU aG HY1 HY0;go_upto_region 4 with fail
  refine HL.o.mono ?_;rintro e w1⟨rv,Hr,rfl,hr,aD,bj⟩;have HRW:=aa hr;have cf:=aK.trans bj;have aU:Holds w1 (H++(Hc++(Hr++((gh,.cells #[.int .i64 cZ,.int .u64 ez,.int .i64 dy,.int .i64 dP] 59)::Fr)))):=aD.p;clear aB aD hr aK bj HL s0 s1 s2 s3;obtain⟨x0,x1,x2,x3,x4,x5,x6⟩:=pd.o w1 _ aU;by_cases hz:d.length=s.Z
  ·have e1:((d.length:Int)!=(s.Z:Int))=false:=by rw[hz];simp
   have HZE:=aa hz;clear hz;have TZ:=aa (Lq.o w1 _ (aU.right));by_cases fi:c.on=true
   ·have pJ:=aa (show res=XT s c ⟨cZ,ez,dy,dP⟩ d by rw[cP.o,if_neg (by rintro(h|h);exact Mb.o h;exact h HZE.o),if_neg (by rw[fi];simp)]);rw[fi]at TZ;clear fi;go_upto_region 6 with fail
    go_upto_region 8 with fail
    refine TZ.o.mono ?_;rintro e w2⟨rfl,rfl⟩;clear x0 x1 x2 x3 x4 x5 x6 e1 TZ;have Ou:=aa (show c.tV+1<=20 by have:=Vh c;have:=IJ.o.1;have:=HBB.o;omega);have LN:=aa (show xQ ⟨cZ,ez,dy,dP⟩ (gC d ⟨cZ,ez,dy,dP⟩) (c.tV+1) s c=res by rw[pJ.o];rfl);obtain⟨N0,hN0⟩:∃N0,N0=c.tV+1:=⟨_,rfl⟩;rw[<-hN0]at Ou LN;have Dp:=aa hN0;clear hN0;go_wp2_with fail
    go_loopw [] (fun wr=>ans b cb g cap mv ⟨cZ,ez,dy,dP⟩ (gC d ⟨cZ,ez,dy,dP⟩) res N0 s c w (Hr++((gh,.cells #[.int .i64 cZ,.int .u64 ez,.int .i64 dy,.int .i64 dP] 59)::Fr)) wr) (fun wr=>(1000000000000-Jr cb wr).toNat)
    case atStart=>exact⟨N0,s,c,H,Hc,by rw[Dp.o];omega,aN _,LN.o,(CM.iV.refl c).mono (by omega),SM.Ba.refl s,kV.o,lS.o,aU,cf⟩
    case round=>
     clear aU cf;obtain⟨m,s',c',H',cO,oc,si,cH,jK,sn,bD,cz,eh,gf⟩:=hrel;obtain⟨m,rfl⟩:∃m',m=m'+1:=⟨m-1,by omega⟩;rw[xQ]at cH;have ag9:=aa bD;have aha:=aa cz;have HLF:=aa (JW bD cz eh);have T1:=aa sn;have XU:=aa jK;have Xq:=aa (yF s' c');have It:=aa (show-1<=s'.op by obtain⟨_,_,_,_,_,_,_,_,_,_,h,_⟩:=bD;exact h.1);have ahb:=aa (show Jr cb wr=c'.ops from GI cz (eh.right));have Xn:=aa eh;have vV:=aa cH;clear cH jK sn bD cz eh;go_upto_region 9 with fail
     refine HLF.o.mono ?_;rintro e w2⟨rfl,q,rfl⟩;by_cases hl:dK s' c'=0
     ·have jP:=aa (VF ag9.o aha.o (Xn.o.drewN q) (by rw[T1.o.1];exact HBB.o) (by have:=XU.o.2.2.2.2.2;have:=HO.o;have:=Ou.o;omega) (by rw[XU.o.2.2.1,T1.o.1];exact IJ.o.1));rw[show eE s' c'=je s' c' by unfold eE;exact if_pos hl]at Xq vV;have Ep:=gf.drewN q;rw[hl];clear hl gf HLF;generalize je s' c'=tk at*;obtain⟨s4,c4,UO⟩:=tk;dsimp only at*;go_upto_region 10 with fail
      refine jP.o.mono ?_;rintro e w4⟨Te,AU,H4,tK,rfl,j9,sj,lU,aU,bV⟩;have LF:=aa j9;have Ds:=aa sj;have Au:=aa lU;have qQ:=Ep.trans bV;have Ot:=aa aU;clear sj lU aU bV Ep jP;by_cases vc:UO=0
      ·subst vc;obtain⟨rfl,rfl⟩:=de j9;clear j9;rw[if_neg (by simp)]at vV;have To:=vV;have Xr:=aa (T1.o.trans Xq.o.1);have pH:=aa ((XU.o.trans Xq.o.2.1).mono (m:=50*((N0:Int)-(m+1))+40) (by have:=T1.o.1;have:=HBB.o;omega));have SC:=aa (show c4.tV<m+1 by have:=Xq.o.2.2.1;omega);have HOX:=aa (Xq.o.2.2.2 rfl It.o);have ab7:=aa (show Jr cb wr<=c4.ops by rw[ahb.o];exact Xq.o.2.1.2.2.2.2.1);have ew:Holds w4 (H4++(tK++(Hr++((gh,.cells #[.int .i64 cZ,.int .u64 ez,.int .i64 dy,.int .i64 dP] 59)::Fr)))):=Ot.o.p;go_upto_region 12 with fail
       obtain⟨yb5,mb5,wo,BX⟩:=Ds.o.next;obtain⟨x0,x1,x2,x3,x4,x5,x6⟩:=wo w4 _ ew;have SE:=aa (BX s4.op w4 _ ew);have qF:=aa ((Xr.o.2.2.2 HYO.o).UN (by have:=Ol.o;omega) s4.op);have HOB:=aa (show s4.op<s4.B by obtain⟨_,_,_,_,_,_,_,_,_,_,h,_⟩:=Ds.o;exact h.2);have WG:=aa (show c4.there s4.op=true by unfold CM.there;rw[pH.o.2.2.1,IJ.o.1,<-Xr.o.1];exact decide_eq_true ⟨HOX.o,HOB.o⟩);have Od:=aa (show(gC d ⟨cZ,ez,dy,dP⟩).length=c4.Z+28 by rw[sI,HZE.o,pH.o.2.1,IJ.o.2]);clear wo BX ew;obtain⟨op,im⟩:∃op,op=s4.op:=⟨_,rfl⟩;rw[<-im]at SE qF HOB WG To HOX x6;have Xs:=aa im;clear im;obtain⟨pg,kg⟩:∃pg,pg=(bX s4.y op).2.1:=⟨_,rfl⟩;rw[<-kg]at SE qF To;clear kg;go_upto_region 14 with fail
       refine SE.o.mono ?_;rintro e w5⟨ve5,He5,H5,rfl,Xt,lu,bg,dJ⟩;have jH:=aa lu;have bC:Holds w5 (H5++(tK++(Hr++((gh,.cells #[.int .i64 cZ,.int .u64 ez,.int .i64 dy,.int .i64 dP] 59)::Fr)))):=bg.p;have eY:=qQ.trans dJ;clear Xt lu bg dJ qQ SE x0 x1 x2 x3 x4 x5 x6;obtain⟨yb6,mb6,wu,_⟩:=jH.o.jU;obtain⟨x0,x1,x2,x3,x4,x5,x6⟩:=wu w5 _ bC;have Zq:=aa (EU op pg Au.o (bC.swap) (by have:=pH.o.2.2.2.2.2;have:=HO.o;have:=Ou.o;omega) WG.o (fun wx hx=>HRW.o.at_ (hx.p:Holds wx (Hr++(H5++((gh,.cells #[.int .i64 cZ,.int .u64 ez,.int .i64 dy,.int .i64 dP] 59)::Fr))))) Od.o);have vW:=aa (yD c4 op pg (gC d ⟨cZ,ez,dy,dP⟩));have T2:=aa (yE c4 op pg (gC d ⟨cZ,ez,dy,dP⟩));have ab8:=aa (fun h=>EV (c:=c4) (k:=op) (p:=pg) (raw:=gC d ⟨cZ,ez,dy,dP⟩) h);clear wu bC;generalize fQ c4 op pg (gC d ⟨cZ,ez,dy,dP⟩)=pr at*;obtain⟨c6,qk⟩:=pr;dsimp only at*;go_upto_region 15 with fail
       refine Zq.o.mono ?_;rintro e w6⟨G6,ve6,DO,ti,rfl,zO,Bq,cA,jk⟩;dsimp only at zO Bq;have Md:=aa Bq;have Ov:=aa zO;have jn:=eY.trans jk;have cT:Holds w6 (ti++(H5++(DO++(Hr++((gh,.cells #[.int .i64 cZ,.int .u64 ez,.int .i64 dy,.int .i64 dP] 59)::Fr))))):=cA.p;have I8:=aa (Cc ve6 qk ti _ w6 zO cT);have IP:=aa cT;clear zO Bq cA jk eY cT Zq x0 x1 x2 x3 x4 x5 x6;by_cases h0:qk=0
       ·subst h0;have Bb:=aa (show res=(oC (bL s4 s4.op) s4.op pg ⟨cZ,ez,dy,dP⟩,c6,s4.op*s4.P+pg,0) by rw[<-To.o];unfold DW;exact if_pos rfl);obtain⟨s0,s1,s2,s3⟩:=dj.o w6 (ti++(H5++(DO++Hr))) Fr (by simpa using IP.o);have ZD:=aa (HKP.o (bL s4 op) H5 op pg jH.o w6 (DO++Fr) (IP.o.p) HOX.o HOB.o qF.o.1 (by show pg<(s4.P:Int);rw[Xr.o.2.1];exact qF.o.2));go_upto_region 17 with fail
        refine I8.o.mono ?_;rintro e w7⟨rfl,rfl⟩;go_upto_region 18 with fail
        go_upto_region 19 with fail
        refine ZD.o.mono ?_;rintro e w7⟨rfl,H7,Tm,di,jG⟩;have Oq:=aa Tm;have DJ:=aa di;have iU:=jn.trans jG;clear Tm di jG jn s0 s1 s2 s3 ZD I8;go_wp2_with fail
        go_ret2
        rw[Bb.o,<-Xs.o];exact⟨_,[],H7,DO,rfl,bJ.none,Oq.o,Md.o,DJ.o.p,iU⟩
       ·have e0:(qk==0)=false:=by simpa using h0
        by_cases h5:qk=5
        ·subst h5;have ab9:=aa (show c6.there op=true by have:=WG.o;unfold CM.there at this⊢;rw[vW.o.2.2.1];exact this);have ZB:=aa (yy op jH.o Md.o (IP.o.right) (by have:=vW.o.2.2.2.2.2;have:=pH.o.2.2.2.2.2;have:=HO.o;have:=Ou.o;omega) ab9.o);have BP:=aa (qv (bL s4 op) c6 op);have aca:=aa (tz (bL s4 op) c6 op);have acb:=aa (yB (bL s4 op) c6 op);have Bb:=aa (show res=if(bS (bL s4 s4.op) c6 s4.op).2.2≠0 then((bS (bL s4 s4.op) c6 s4.op).1,(bS (bL s4 s4.op) c6 s4.op).2.1,0,(bS (bL s4 s4.op) c6 s4.op).2.2)else xQ ⟨cZ,ez,dy,dP⟩ (gC d ⟨cZ,ez,dy,dP⟩) m (bS (bL s4 s4.op) c6 s4.op).1 (bS (bL s4 s4.op) c6 s4.op).2.1 by rw[<-To.o];unfold DW;rw[if_neg (by simp),if_pos rfl]);rw[<-Xs.o]at Bb;generalize bS (bL s4 op) c6 op=gv at*;obtain⟨s8,c8,UP⟩:=gv;dsimp only at*;go_upto_region 17 with fail
         refine I8.o.mono ?_;rintro e w7⟨rfl,rfl⟩;go_upto_region 18 with fail
         go_upto_region 21 with fail
         refine ZB.o.mono ?_;rintro e w8⟨ve8,He8,H8,Xu,rfl,FU,LP,Gg,di,ka⟩;have HE8:=aa FU;have SF:=aa LP;have Me:=aa Gg;have DJ:=aa di;have iT:=jn.trans ka;clear LP Gg di ka jn ZB I8;by_cases IL:UP=0
         ·subst IL;obtain⟨rfl,rfl⟩:=de FU;clear FU;rw[if_neg (by simp)]at Bb;have acd:=aa (show Jr cb w8=c8.ops from GI Me.o (DJ.o.right));have Er:=aa (show c8.ops<=999999999999 by have:=BP.o.1.2.2.2.2.2;have:=vW.o.2.2.2.2.2;have:=pH.o.2.2.2.2.2;have:=HO.o;have:=Ou.o;omega);go_wp2_with fail
          go_roundw
          case rel=>
           refine⟨m,s8,c8,H8,Xu,?_,by omega,Bb.o.symm,?_,(Xr.o.trans (⟨rfl,rfl,rfl,fun h=>h.next op⟩:(s4).Ba (bL s4 op))).trans acb.o,SF.o,Me.o,DJ.o.p,iT⟩
           ·obtain⟨x9,hx9,Su⟩:=T2.o.2 (by first|rfl|trivial);have:=aca.o.2 (by first|rfl|trivial) x9 hx9 Su;have:=T2.o.1;have:=SC.o;omega
           ·exact((pH.o.trans vW.o).trans BP.o.1).mono (by omega)
          case measure=>
           have h1:=ab8.o (by first|rfl|trivial);have h2:=BP.o.1.2.2.2.2.1;have h3:=ab7.o;have h4:=Er.o;rw[acd.o];omega
         ·obtain⟨Tp,Tq,rfl,rfl⟩:=cI FU IL;clear FU;rw[if_pos IL]at Bb;go_wp2_with fail
          go_ret2
          rw[Bb.o];exact⟨_,_,H8,Xu,rfl,HE8.o,SF.o,Me.o,DJ.o.p,iT⟩
        ·have e5:(qk==5)=false:=by simpa using h5
         have Bb:=aa (show res=(bL s4 s4.op,c6,0,qk) by rw[<-To.o];unfold DW;rw[if_neg h0,if_neg h5]);rw[<-Xs.o]at Bb;go_upto_region 17 with fail
         refine I8.o.mono ?_;rintro e w7⟨rfl,rfl⟩;go_wp2_with fail
         go_ret2
         rw[Bb.o];exact⟨_,_,H5,DO,rfl,Ov.o,jH.o,Md.o,IP.o.p,jn⟩
      ·obtain⟨be4,se4,rfl,rfl⟩:=cI j9 vc;clear j9;rw[if_pos vc]at vV;go_wp2_with fail
       go_ret2
       rw[<-vV.o];exact⟨_,_,H4,tK,rfl,LF.o,Ds.o,Au.o,Ot.o.p,qQ⟩
     ·rw[show eE s' c'=(s',c',0) by unfold eE;exact if_neg hl]at Xq vV;have e4:(dK s' c'==0)=false:=by simpa using hl
      dsimp only at Xq vV;rw[if_neg (by simp)]at vV;have To:=vV;have Xr:=T1;have Ds:=ag9;have Au:=aha;have pH:=aa (XU.o.mono (m:=50*((N0:Int)-(m+1))+40) (by omega));have SC:=aa oc;have HOX:=aa (Xq.o.2.2.2 rfl It.o);have ab7:=aa (show Jr cb wr<=c'.ops by rw[ahb.o];exact bG _);have qQ:=gf.drewN q;have ew:=Xn.o.drewN q;clear hl gf HLF;generalize wr.drewN q=w4 at*;go_upto_region 12 with fail
      obtain⟨yb5,mb5,wo,BX⟩:=Ds.o.next;obtain⟨x0,x1,x2,x3,x4,x5,x6⟩:=wo w4 _ ew;have SE:=aa (BX s'.op w4 _ ew);have qF:=aa ((Xr.o.2.2.2 HYO.o).UN (by have:=Ol.o;omega) s'.op);have HOB:=aa (show s'.op<s'.B by obtain⟨_,_,_,_,_,_,_,_,_,_,h,_⟩:=Ds.o;exact h.2);have WG:=aa (show c'.there s'.op=true by unfold CM.there;rw[pH.o.2.2.1,IJ.o.1,<-Xr.o.1];exact decide_eq_true ⟨HOX.o,HOB.o⟩);have Od:=aa (show(gC d ⟨cZ,ez,dy,dP⟩).length=c'.Z+28 by rw[sI,HZE.o,pH.o.2.1,IJ.o.2]);clear wo BX ew;obtain⟨op,im⟩:∃op,op=s'.op:=⟨_,rfl⟩;rw[<-im]at SE qF HOB WG To HOX x6;have Xs:=aa im;clear im;obtain⟨pg,kg⟩:∃pg,pg=(bX s'.y op).2.1:=⟨_,rfl⟩;rw[<-kg]at SE qF To;clear kg;go_upto_region 14 with fail
      refine SE.o.mono ?_;rintro e w5⟨ve5,He5,H5,rfl,Xt,lu,bg,dJ⟩;have jH:=aa lu;have bC:Holds w5 (H5++(cO++(Hr++((gh,.cells #[.int .i64 cZ,.int .u64 ez,.int .i64 dy,.int .i64 dP] 59)::Fr)))):=bg.p;have eY:=qQ.trans dJ;clear Xt lu bg dJ qQ SE x0 x1 x2 x3 x4 x5 x6;obtain⟨yb6,mb6,wu,_⟩:=jH.o.jU;obtain⟨x0,x1,x2,x3,x4,x5,x6⟩:=wu w5 _ bC;have Zq:=aa (EU op pg Au.o (bC.swap) (by have:=pH.o.2.2.2.2.2;have:=HO.o;have:=Ou.o;omega) WG.o (fun wx hx=>HRW.o.at_ (hx.p:Holds wx (Hr++(H5++((gh,.cells #[.int .i64 cZ,.int .u64 ez,.int .i64 dy,.int .i64 dP] 59)::Fr))))) Od.o);have vW:=aa (yD c' op pg (gC d ⟨cZ,ez,dy,dP⟩));have T2:=aa (yE c' op pg (gC d ⟨cZ,ez,dy,dP⟩));have ab8:=aa (fun h=>EV (c:=c') (k:=op) (p:=pg) (raw:=gC d ⟨cZ,ez,dy,dP⟩) h);clear wu bC;generalize fQ c' op pg (gC d ⟨cZ,ez,dy,dP⟩)=pr at*;obtain⟨c6,qk⟩:=pr;dsimp only at*;go_upto_region 15 with fail
      refine Zq.o.mono ?_;rintro e w6⟨G6,ve6,DO,ti,rfl,zO,Bq,cA,jk⟩;dsimp only at zO Bq;have Md:=aa Bq;have Ov:=aa zO;have jn:=eY.trans jk;have cT:Holds w6 (ti++(H5++(DO++(Hr++((gh,.cells #[.int .i64 cZ,.int .u64 ez,.int .i64 dy,.int .i64 dP] 59)::Fr))))):=cA.p;have I8:=aa (Cc ve6 qk ti _ w6 zO cT);have IP:=aa cT;clear zO Bq cA jk eY cT Zq x0 x1 x2 x3 x4 x5 x6;by_cases h0:qk=0
      ·subst h0;have Bb:=aa (show res=(oC (bL s' s'.op) s'.op pg ⟨cZ,ez,dy,dP⟩,c6,s'.op*s'.P+pg,0) by rw[<-To.o];unfold DW;exact if_pos rfl);obtain⟨s0,s1,s2,s3⟩:=dj.o w6 (ti++(H5++(DO++Hr))) Fr (by simpa using IP.o);have ZD:=aa (HKP.o (bL s' op) H5 op pg jH.o w6 (DO++Fr) (IP.o.p) HOX.o HOB.o qF.o.1 (by show pg<(s'.P:Int);rw[Xr.o.2.1];exact qF.o.2));go_upto_region 17 with fail
       refine I8.o.mono ?_;rintro e w7⟨rfl,rfl⟩;go_upto_region 18 with fail
       go_upto_region 19 with fail
       refine ZD.o.mono ?_;rintro e w7⟨rfl,H7,Tm,di,jG⟩;have Oq:=aa Tm;have DJ:=aa di;have iU:=jn.trans jG;clear Tm di jG jn s0 s1 s2 s3 ZD I8;go_wp2_with fail
       go_ret2
       rw[Bb.o,<-Xs.o];exact⟨_,[],H7,DO,rfl,bJ.none,Oq.o,Md.o,DJ.o.p,iU⟩
      ·have e0:(qk==0)=false:=by simpa using h0
       by_cases h5:qk=5
       ·subst h5;have ab9:=aa (show c6.there op=true by have:=WG.o;unfold CM.there at this⊢;rw[vW.o.2.2.1];exact this);have ZB:=aa (yy op jH.o Md.o (IP.o.right) (by have:=vW.o.2.2.2.2.2;have:=pH.o.2.2.2.2.2;have:=HO.o;have:=Ou.o;omega) ab9.o);have BP:=aa (qv (bL s' op) c6 op);have aca:=aa (tz (bL s' op) c6 op);have acb:=aa (yB (bL s' op) c6 op);have Bb:=aa (show res=if(bS (bL s' s'.op) c6 s'.op).2.2≠0 then((bS (bL s' s'.op) c6 s'.op).1,(bS (bL s' s'.op) c6 s'.op).2.1,0,(bS (bL s' s'.op) c6 s'.op).2.2)else xQ ⟨cZ,ez,dy,dP⟩ (gC d ⟨cZ,ez,dy,dP⟩) m (bS (bL s' s'.op) c6 s'.op).1 (bS (bL s' s'.op) c6 s'.op).2.1 by rw[<-To.o];unfold DW;rw[if_neg (by simp),if_pos rfl]);rw[<-Xs.o]at Bb;generalize bS (bL s' op) c6 op=gv at*;obtain⟨s8,c8,UP⟩:=gv;dsimp only at*;go_upto_region 17 with fail
        refine I8.o.mono ?_;rintro e w7⟨rfl,rfl⟩;go_upto_region 18 with fail
        go_upto_region 21 with fail
        refine ZB.o.mono ?_;rintro e w8⟨ve8,He8,H8,Xu,rfl,FU,LP,Gg,di,ka⟩;have HE8:=aa FU;have SF:=aa LP;have Me:=aa Gg;have DJ:=aa di;have iT:=jn.trans ka;clear LP Gg di ka jn ZB I8;by_cases IL:UP=0
        ·subst IL;obtain⟨rfl,rfl⟩:=de FU;clear FU;rw[if_neg (by simp)]at Bb;have acd:=aa (show Jr cb w8=c8.ops from GI Me.o (DJ.o.right));have Er:=aa (show c8.ops<=999999999999 by have:=BP.o.1.2.2.2.2.2;have:=vW.o.2.2.2.2.2;have:=pH.o.2.2.2.2.2;have:=HO.o;have:=Ou.o;omega);go_wp2_with fail
         go_roundw
         case rel=>
          refine⟨m,s8,c8,H8,Xu,?_,by omega,Bb.o.symm,?_,(Xr.o.trans (⟨rfl,rfl,rfl,fun h=>h.next op⟩:(s').Ba (bL s' op))).trans acb.o,SF.o,Me.o,DJ.o.p,iT⟩
          ·obtain⟨x9,hx9,Su⟩:=T2.o.2 (by first|rfl|trivial);have:=aca.o.2 (by first|rfl|trivial) x9 hx9 Su;have:=T2.o.1;have:=SC.o;omega
          ·exact((pH.o.trans vW.o).trans BP.o.1).mono (by omega)
         case measure=>
          have h1:=ab8.o (by first|rfl|trivial);have h2:=BP.o.1.2.2.2.2.1;have h3:=ab7.o;have h4:=Er.o;rw[acd.o];omega
        ·obtain⟨Tp,Tq,rfl,rfl⟩:=cI FU IL;clear FU;rw[if_pos IL]at Bb;go_wp2_with fail
         go_ret2
         rw[Bb.o];exact⟨_,_,H8,Xu,rfl,HE8.o,SF.o,Me.o,DJ.o.p,iT⟩
       ·have e5:(qk==5)=false:=by simpa using h5
        have Bb:=aa (show res=(bL s' s'.op,c6,0,qk) by rw[<-To.o];unfold DW;rw[if_neg h0,if_neg h5]);rw[<-Xs.o]at Bb;go_upto_region 17 with fail
        refine I8.o.mono ?_;rintro e w7⟨rfl,rfl⟩;go_wp2_with fail
        go_ret2
        rw[Bb.o];exact⟨_,_,H5,DO,rfl,Ov.o,jH.o,Md.o,IP.o.p,jn⟩
   ·have pJ:=aa (show res=(s,c,0,4) by rw[cP.o,if_neg (by rintro(h|h);exact Mb.o h;exact h HZE.o),if_pos (by simpa using fi)]);rw[show c.on=false by simpa using fi]at TZ;have HW:=aa (mC 4 w1 _ (by omega) aU);clear fi aU;go_upto_region 6 with fail
    go_upto_region 8 with fail
    refine TZ.o.mono ?_;rintro e w2⟨rfl,rfl⟩;go_wp2_with fail
    refine HW.o.mono ?_;rintro e w2⟨ve2,St,rfl,oU,aU,bV⟩;have LB:=aa oU;have Ot:=aa aU;clear oU aU HW;go_wp2_with fail
    go_ret2
    rw[pJ.o];exact⟨_,St,H,Hc,rfl,LB.o,kV.o,lS.o,Ot.o.p,cf.trans bV⟩
  ·have e1:((d.length:Int)!=(s.Z:Int))=true:=by simp;omega
   have pJ:=aa (show res=(s,c,0,2) by rw[cP.o,if_pos (.inr hz)]);have HW:=aa (mC 2 w1 _ (by omega) aU);clear hz aU;go_wp2_with fail
   refine HW.o.mono ?_;rintro e w2⟨ve2,St,rfl,oU,aU,bV⟩;have LB:=aa oU;have Ot:=aa aU;clear oU aU HW;go_wp2_with fail
   go_ret2
   rw[pJ.o];exact⟨_,St,H,Hc,rfl,LB.o,kV.o,lS.o,Ot.o.p,cf.trans bV⟩
end
section
variable{b cb g cap:Nat}{mv:Value}{c:CM}{s:SM}{H Hc Fr:HL}{w:World}
theorem cr.look(h:cr b cb s H):∃yb mb,(∀(w:World) (F:HL),Holds w (H++F)->w.cell? ⟨b,0,none⟩=some (.pointer (some ⟨yb,0,none⟩))∧w.cell? ⟨b,1,none⟩=some (.pointer (some ⟨cb,0,none⟩))∧
  w.cell? ⟨b,2,none⟩=some (.int .i64 (s.B:Int))∧w.cell? ⟨b,3,none⟩=some (.int .i64 (s.P:Int))∧w.cell? ⟨b,4,none⟩=some (.int .i64 (s.Z:Int))∧w.cell? ⟨b,5,none⟩=some (.map (some mb))∧w.cell? ⟨b,6,none⟩=some (.int .i64 s.op))∧
  ∀(a:Int) (w:World) (F:HL),Holds w (H++F)->0<=a->a<=9223372036854775807->(Instr.lookup 105 (.map (some mb)) (.int .i64 a) true).run Tryz.prog w=.ok (.tuple #[((aq s.hs a).getD Hd.zero).agg,.bool (aq s.hs a).isSome]) w:=by
 obtain⟨yb,mb,es,clock,Hy,hy,cj,bD,yW,ik,im,Lp,rfl⟩:=h;refine⟨yb,mb,fun w F hX=>⟨hX.ae 0,hX.ae 1,hX.ae 2,hX.ae 3,hX.ae 4,hX.ae 5,hX.ae 6⟩,fun a w F hX h0 h1=>?_⟩;have hb:w.heap[mb]?=some (.map es clock):=hX.get (by simp);exact YO hb cj yW h0 h1
def bQ(s:SM)(n:Int):Int×Int×Int:=
 if(jZ s.B s.P n).1<0 then(0,0,2)else if(aq s.hs n).isSome=false then(0,0,8)else((jZ s.B s.P n).1,(jZ s.B s.P n).2,0)
def adG(r:Int×Int×Int)(w:World)(Fr:HL)(e:Ending)(w':World):Prop:=
 ∃ve He,e=.returned (.tuple #[.int .i64 r.1,.int .i64 r.2.1,ve])∧bJ ve r.2.2 He∧Holds w' (He++Fr)∧af w w'
theorem EW{B P n:Int}(h:0<=(jZ B P n).1):0<=n∧n<=B*P-1:=by
 unfold jZ at h;split at h
 ·rename_i hn;exact hn
 ·exact absurd h (by decide)
theorem EX(n:Int)(h:cr b cb s H)(hH:Holds w (H++Fr)):Calls Tryz.prog 95 #[.pointer (some ⟨b,0,none⟩),.int .i64 n] w (adG (bQ s n) w (H++Fr)):=by
 obtain⟨yb,mb,bm,nV⟩:=h.look;have pd:=aa bm;have Dv:=aa nV;have od:=aa (QR (s.B:Int) s.P s.Z n w _ hH h.sm);have Ol:=aa (bO h.sm);have hmb:=bO h.sm;have hmul:(s.B:Int)*s.P<=256:=by
  have:=Int.mul_le_mul (show(s.B:Int)<=32 by omega) (show(s.P:Int)<=8 by omega) (by omega) (by omega);omega
 have Eo:=aa (fun(hh:0<=(jZ s.B s.P n).1)=>show 0<=n∧n<=9223372036854775807 by have:=EW hh;omega);have HR:=aa (show bQ s n=if(jZ s.B s.P n).1<0 then(0,0,2)else if(aq s.hs n).isSome=false then(0,0,8)else((jZ s.B s.P n).1,(jZ s.B s.P n).2,0)from rfl);generalize bQ s n=res at*;generalize jZ s.B s.P n=pl at*;obtain⟨pb,pp⟩:=pl;dsimp only at*;obtain⟨x0,x1,x2,x3,x4,x5,x6⟩:=bm w _ hH;clear h bm nV hH hmb hmul;go_enter func95,ntmps95;go_upto_region 4 with fail
 refine od.o.mono ?_;rintro e w1⟨rfl,ax,aK⟩;clear x0 x1 x2 x3 x4 x5 x6 od;by_cases hb:pb<0
 ·have pJ:=aa (show res=(0,0,2) by rw[HR.o,if_pos hb]);have HW:=aa (mC 2 w1 _ (by omega) ax);clear ax;go_wp2_with fail
  refine HW.o.mono ?_;rintro e w2⟨ve,He,rfl,he,aB,aX⟩;have HE:=aa he;clear he HW;go_wp2_with fail
  go_ret3
  rw[pJ.o];exact⟨ve,He,rfl,HE.o,aB,aK.trans aX⟩
 ·obtain⟨uZ,qM⟩:=Eo.o (by omega);have nV:=Dv.o n w1 _ ax uZ qM;obtain⟨x0,x1,x2,x3,x4,x5,x6⟩:=pd.o w1 _ ax;have HB:=aa hb;rw[if_neg hb]at HR;cases hl:aq s.hs n with
  |none=>
   rw[hl]at nV HR;have pJ:=aa (show res=(0,0,8) by rw[HR.o];rfl);simp only[Option.getD_none,Option.isSome_none,Hd.agg,Hd.cells,Hd.zero]at nV;have aB:=ax.alloc (.cells #[.int .i64 0,.int .u64 0,.int .i64 0,.int .i64 0] 59);have aX:=aK.alloc (.cells #[.int .i64 0,.int .u64 0,.int .i64 0,.int .i64 0] 59);have HW:=aa (mC 8 _ _ (by omega) aB);clear hl ax aB;go_wp2_with fail
   refine HW.o.mono ?_;rintro e w2⟨ve,He,rfl,he,aB,bj⟩;have HE:=aa he;clear he HW;go_wp2_with fail
   go_ret3
   rw[pJ.o];exact⟨ve,He,rfl,HE.o,aB.p,aX.trans bj⟩
  |some q=>
   rw[hl]at nV HR;have pJ:=aa (show res=(pb,pp,0) by rw[HR.o];rfl);obtain⟨cZ,ez,dy,dP⟩:=q;simp only[Option.getD_some,Option.isSome_some,Hd.agg,Hd.cells]at nV;have aB:=ax.alloc (.cells #[.int .i64 cZ,.int .u64 ez,.int .i64 dy,.int .i64 dP] 59);have aX:=aK.alloc (.cells #[.int .i64 cZ,.int .u64 ez,.int .i64 dy,.int .i64 dP] 59);clear hl ax;go_wp2_with fail
   go_ret3
   rw[pJ.o];exact⟨_,[],rfl,bJ.none,aB.tail,aX⟩
end
section
variable{b cb g cap:Nat}{mv:Value}{c:CM}{s:SM}{H Hc Fr:HL}{w:World}
theorem qq(n:Int)(h:cr b cb s H)(hH:Holds w (H++Fr))(hn:0<=n)(qM:n<=9223372036854775807):Calls Tryz.prog 32 #[.pointer (some ⟨b,0,none⟩),.int .i64 n] w (cM (.tuple #[((aq s.hs n).getD Hd.zero).agg,.bool (aq s.hs n).isSome]) w (H++Fr)):=by
 obtain⟨yb,mb,bm,nV⟩:=h.look;have Dv:=aa (fun(wx:World) (F:HL) (hx:Holds wx (H++F))=>nV n wx F hx hn qM);have pd:=aa bm;generalize aq s.hs n=q at*;generalize hq:q.getD Hd.zero=r at*;generalize q.isSome=z at*;obtain⟨cZ,ez,dy,dP⟩:=r;simp only[Hd.agg,Hd.cells]at Dv⊢;have ax:=hH.alloc (.cells #[.int .i64 0,.int .u64 0,.int .i64 0,.int .i64 0] 59);have aK:=(af.refl w).alloc (.cells #[.int .i64 0,.int .u64 0,.int .i64 0,.int .i64 0] 59);clear h hH bm nV hq;go_enter func32,ntmps32;go_upto_region 3 with fail
 generalize w.alloc (.cells #[.int .i64 0,.int .u64 0,.int .i64 0,.int .i64 0] 59)=w1 at*;generalize w.heap.size=gh at*;have aB:Holds w1 (H++(Fr++[(gh,.cells #[.int .i64 0,.int .u64 0,.int .i64 0,.int .i64 0] 59)])):=ax.p;have nV:=Dv.o w1 _ aB;obtain⟨x0,x1,x2,x3,x4,x5,x6⟩:=pd.o w1 _ aB;have aD:=ax.alloc (.cells #[.int .i64 cZ,.int .u64 ez,.int .i64 dy,.int .i64 dP] 59);have bj:=aK.alloc (.cells #[.int .i64 cZ,.int .u64 ez,.int .i64 dy,.int .i64 dP] 59);clear ax aK aB;go_upto_region 4 with fail
 generalize w1.alloc (.cells #[.int .i64 cZ,.int .u64 ez,.int .i64 dy,.int .i64 dP] 59)=w2 at*;generalize w1.heap.size=g2 at*;obtain⟨s0,s1,s2,s3,_⟩:=aD.hJ;obtain⟨r0,r1,r2,r3,f0,f1,f2,f3⟩:=aD.tail.hJ;have rl:=aD.tail.aG;have aU:=Holds.nz (aD.tail) (.int .i64 cZ) (.int .u64 ez) (.int .i64 dy) (.int .i64 dP);have bV:=bj.nz gh (.int .i64 cZ) (.int .u64 ez) (.int .i64 dy) (.int .i64 dP);have Iy:=aa aD;clear aD x0 x1 x2 x3 x4 x5 x6;go_wp2_with fail
 obtain⟨t0,t1,t2,t3,_⟩:=aU.hJ;refine bodyPost_ret (v:=.tuple #[.agg #[.int .i64 cZ,.int .u64 ez,.int .i64 dy,.int .i64 dP],.bool z]) (by rw[results_cell_tmp rfl];go_simp) rfl ⟨rfl,?_,?_⟩
 ·exact aU.tail
 ·exact bV
def adH(cb g cap:Nat)(mv:Value)(r:CM×List UInt8×Hd×Int)(w:World)(H Fr:HL)(e:Ending)(w':World):Prop:=
 ∃v Hv ve He cO,e=.returned (.tuple #[v,r.2.2.1.agg,ve])∧ar v r.2.1 Hv∧bJ ve r.2.2.2 He∧ai cb g cap mv r.1 cO∧Holds w' (H++(cO++(Hv++(He++Fr))))∧af w w'
def oq(s:SM)(c:CM)(n:Int):CM×List UInt8×Hd×Int:=
 if(bQ s n).2.2≠0 then(c,[],Hd.zero,(bQ s n).2.2)
 else if(c.read (bQ s n).1 (bQ s n).2.1).2.2≠0 then((c.read (bQ s n).1 (bQ s n).2.1).1,[],Hd.zero,(c.read (bQ s n).1 (bQ s n).2.1).2.2)
 else match fE (c.read (bQ s n).1 (bQ s n).2.1).2.1 with
  |some q=>((c.read (bQ s n).1 (bQ s n).2.1).1,q.1,q.2,0)
  |none=>((c.read (bQ s n).1 (bQ s n).2.1).1,[],Hd.zero,0)
theorem YQ(n:Int)(h:cr b cb s H)(cz:ai cb g cap mv c Hc)(hH:Holds w (H++(Hc++Fr)))(fI:c.ops<=999999999999):Calls Tryz.prog 178 #[.pointer (some ⟨b,0,none⟩),.int .i64 n] w (adH cb g cap mv (oq s c n) w H Fr):=by
 have ax:=hH.alloc (.cells #[.int .i64 0,.int .u64 0,.int .i64 0,.int .i64 0] 59);have aK:=(af.refl w).alloc (.cells #[.int .i64 0,.int .u64 0,.int .i64 0,.int .i64 0] 59);have aB:Holds (w.alloc (.cells #[.int .i64 0,.int .u64 0,.int .i64 0,.int .i64 0] 59)) (H++(Hc++(Fr++[(w.heap.size,.cells #[.int .i64 0,.int .u64 0,.int .i64 0,.int .i64 0] 59)]))):=ax.p;have HA:=aa (EX n h aB);have lS:=aa cz;have HO:=aa fI;have HR:=aa (show oq s c n=if(bQ s n).2.2≠0 then(c,[],Hd.zero,(bQ s n).2.2)
  else if(c.read (bQ s n).1 (bQ s n).2.1).2.2≠0 then((c.read (bQ s n).1 (bQ s n).2.1).1,[],Hd.zero,(c.read (bQ s n).1 (bQ s n).2.1).2.2)
  else match fE (c.read (bQ s n).1 (bQ s n).2.1).2.1 with
   |some q=>((c.read (bQ s n).1 (bQ s n).2.1).1,q.1,q.2,0)
   |none=>((c.read (bQ s n).1 (bQ s n).2.1).1,[],Hd.zero,0)from rfl)
 generalize oq s c n=res at*;generalize bQ s n=ak at*;obtain⟨ab,ap,JB⟩:=ak;dsimp only at*;obtain⟨yb,mb,bm⟩:=h.cells;have pd:=aa bm;have k1:=cS;have k2:=cC;clear hH ax aB h cz fI bm;go_enter func178,ntmps178;go_upto_region 2 with fail
 generalize w.alloc (.cells #[.int .i64 0,.int .u64 0,.int .i64 0,.int .i64 0] 59)=w0 at*;generalize w.heap.size=gh at*;refine HA.o.mono ?_;rintro e w1⟨ve,He,rfl,he,aB,aX⟩;dsimp only at he;have HE:=aa he;have cY:=aK.trans aX;clear aK aX HA;by_cases hc:JB=0
 ·subst hc;obtain⟨rfl,rfl⟩:=de he;clear he;rw[if_neg (by simp)]at HR;have aD:Holds w1 (H++(Hc++(Fr++[(gh,.cells #[.int .i64 0,.int .u64 0,.int .i64 0,.int .i64 0] 59)]))):=aB;obtain⟨x0,x1,x2,x3,x4,x5,x6⟩:=pd.o w1 _ aD;have jo:=aa (EI ab ap lS.o (aD.swap) (by have:=HO.o;omega));have Od:=aa (JZ lS.o.o7 ab ap);clear aB aD;generalize c.read ab ap=rd at*;obtain⟨c4,raw,code⟩:=rd;dsimp only at*;go_upto_region 5 with fail
  refine jo.o.mono ?_;rintro e w4⟨vr,Te,tK,Hv,AU,G4,rfl,hv,j9,lU,bg,dJ⟩;dsimp only at hv j9 lU;have Au:=aa lU;have HV:=aa hv;have HE:=aa j9;have qQ:=cY.trans dJ;have ew:Holds w4 ((gh,.cells #[.int .i64 0,.int .u64 0,.int .i64 0,.int .i64 0] 59)::(H++(tK++(Hv++(AU++Fr))))):=bg.p;clear hv lU bg dJ cY jo x0 x1 x2 x3 x4 x5 x6;by_cases vc:code=0
  ·subst vc;obtain⟨rfl,rfl⟩:=de j9;clear j9;rw[if_neg (by simp)]at HR;have bC:Holds w4 (H++(tK++(Hv++(Fr++[(gh,.cells #[.int .i64 0,.int .u64 0,.int .i64 0,.int .i64 0] 59)])))):=ew.p;have Dl:=aa (JS vr raw w4 _ (fun wx hx=>HV.o.at_ (hx.p:Holds wx (Hv++(H++(tK++(Fr++[(gh,.cells #[.int .i64 0,.int .u64 0,.int .i64 0,.int .i64 0] 59)])))))) bC (by have:=Od.o;omega));clear bC ew;cases PM:fE raw with
   |none=>
    rw[PM]at Dl HR;have pJ:=aa (show res=(c4,[],Hd.zero,0)from HR.o);clear PM;go_upto_region 8 with fail
    refine Dl.o.mono ?_;rintro e w5⟨st,ab6,rfl,bC,eJ⟩;simp only[Hd.agg,Hd.cells,Hd.zero];go_upto_region 8 with fail
    have cA:=bC.alloc (.cells #[.int .i64 0,.int .u64 0,.int .i64 0,.int .i64 0] 59);have fx:=(qQ.trans eJ).alloc (.cells #[.int .i64 0,.int .u64 0,.int .i64 0,.int .i64 0] 59);clear bC eJ qQ;generalize w5.alloc (.cells #[.int .i64 0,.int .u64 0,.int .i64 0,.int .i64 0] 59)=w6 at*;generalize w5.heap.size=g2 at*;have cT:Holds w6 ((gh,.cells #[.int .i64 0,.int .u64 0,.int .i64 0,.int .i64 0] 59)::((g2,.cells #[.int .i64 0,.int .u64 0,.int .i64 0,.int .i64 0] 59)::(H++(tK++(([]:HL)++Fr))))):=cA.p;clear cA;have dj:=aa (fun(wx:World) (hX:Holds wx ((gh,.cells #[.int .i64 0,.int .u64 0,.int .i64 0,.int .i64 0] 59)::((g2,.cells #[.int .i64 0,.int .u64 0,.int .i64 0,.int .i64 0] 59)::(H++(tK++(([]:HL)++Fr))))))=>show wx.cell? ⟨g2,0,none⟩=some (.int .i64 0)∧wx.cell? ⟨g2,1,none⟩=some (.int .u64 0)∧wx.cell? ⟨g2,2,none⟩=some (.int .i64 0)∧wx.cell? ⟨g2,3,none⟩=some (.int .i64 0)from⟨hX.tail.ae 0,hX.tail.ae 1,hX.tail.ae 2,hX.tail.ae 3⟩);refine nR (fun wx=>wx.cell? ⟨g2,0,none⟩=some (.int .i64 0)∧wx.cell? ⟨g2,1,none⟩=some (.int .u64 0)∧wx.cell? ⟨g2,2,none⟩=some (.int .i64 0)∧wx.cell? ⟨g2,3,none⟩=some (.int .i64 0)) 3 (by kernel_rfl) (fun w1 hd=>dj.o _ (cT.dr hd)) (fun w1 hd hs=>?_);have fy:=cT.dr hd;have mN:=fx.trans (af.dr hd);clear hd cT fx;refine Yv 0 ?_;refine Yu 1 ?_;refine Yv 2 ?_;simp only[pt,sA,sS,sZ];refine Yl 3 fun K hK=>?_;have⟨s0,s1,s2,s3⟩:=hs;obtain⟨r0,r1,r2,r3,f0,f1,f2,f3⟩:=fy.hJ;have rl:=fy.aG;have di:=Holds.nz fy (.int .i64 0) (.int .u64 0) (.int .i64 0) (.int .i64 0);have jG:=mN.nz gh (.int .i64 0) (.int .u64 0) (.int .i64 0) (.int .i64 0);go_simp;clear r0 r1 r2 r3 f0 f1 f2 f3 fy mN;clear s0 s1 s2 s3 hs;refine hK _ _ ?_;clear hK K;refine Yl 4 fun K hK=>?_;go_simp;refine hK _ _ ?_;clear hK K;refine Ye ?_;have DJ:=aa di;clear di;go_wp2_with fail
    obtain⟨t0,t1,t2,t3,_⟩:=DJ.o.hJ;rw[pJ.o];refine bodyPost_ret (v:=.tuple #[.slice none 0 0,.agg #[.int .i64 0,.int .u64 0,.int .i64 0,.int .i64 0],.nilIface]) (by rw[iA rfl];go_simp) rfl ⟨_,([]:HL),_,[],_,rfl,(au.nil _ _),bJ.none,Au.o,DJ.o.p,jG⟩
   |some q=>
    rw[PM]at Dl HR;obtain⟨dq,cZ,ez,dy,dP⟩:=q;have pJ:=aa (show res=(c4,dq,⟨cZ,ez,dy,dP⟩,0)from HR.o);clear PM;go_upto_region 8 with fail
    refine Dl.o.mono ?_;rintro e w5⟨vd,Hd5,rfl,hd5,bC,eJ⟩;dsimp only at hd5;have HD5:=aa hd5;clear hd5;simp only[Hd.agg,Hd.cells];go_upto_region 8 with fail
    have cA:=bC.alloc (.cells #[.int .i64 cZ,.int .u64 ez,.int .i64 dy,.int .i64 dP] 59);have fx:=(qQ.trans eJ).alloc (.cells #[.int .i64 cZ,.int .u64 ez,.int .i64 dy,.int .i64 dP] 59);clear bC eJ qQ;generalize w5.alloc (.cells #[.int .i64 cZ,.int .u64 ez,.int .i64 dy,.int .i64 dP] 59)=w6 at*;generalize w5.heap.size=g2 at*;have cT:Holds w6 ((gh,.cells #[.int .i64 0,.int .u64 0,.int .i64 0,.int .i64 0] 59)::((g2,.cells #[.int .i64 cZ,.int .u64 ez,.int .i64 dy,.int .i64 dP] 59)::(H++(tK++(Hd5++Fr))))):=cA.p;clear cA;have dj:=aa (fun(wx:World) (hX:Holds wx ((gh,.cells #[.int .i64 0,.int .u64 0,.int .i64 0,.int .i64 0] 59)::((g2,.cells #[.int .i64 cZ,.int .u64 ez,.int .i64 dy,.int .i64 dP] 59)::(H++(tK++(Hd5++Fr))))))=>show wx.cell? ⟨g2,0,none⟩=some (.int .i64 cZ)∧wx.cell? ⟨g2,1,none⟩=some (.int .u64 ez)∧wx.cell? ⟨g2,2,none⟩=some (.int .i64 dy)∧wx.cell? ⟨g2,3,none⟩=some (.int .i64 dP)from⟨hX.tail.ae 0,hX.tail.ae 1,hX.tail.ae 2,hX.tail.ae 3⟩);refine nR (fun wx=>wx.cell? ⟨g2,0,none⟩=some (.int .i64 cZ)∧wx.cell? ⟨g2,1,none⟩=some (.int .u64 ez)∧wx.cell? ⟨g2,2,none⟩=some (.int .i64 dy)∧wx.cell? ⟨g2,3,none⟩=some (.int .i64 dP)) 3 (by kernel_rfl) (fun w1 hd=>dj.o _ (cT.dr hd)) (fun w1 hd hs=>?_);have fy:=cT.dr hd;have mN:=fx.trans (af.dr hd);clear hd cT fx;refine Yv 0 ?_;refine Yu 1 ?_;refine Yv 2 ?_;simp only[pt,sA,sS,sZ];refine Yl 3 fun K hK=>?_;have⟨s0,s1,s2,s3⟩:=hs;obtain⟨r0,r1,r2,r3,f0,f1,f2,f3⟩:=fy.hJ;have rl:=fy.aG;have di:=Holds.nz fy (.int .i64 cZ) (.int .u64 ez) (.int .i64 dy) (.int .i64 dP);have jG:=mN.nz gh (.int .i64 cZ) (.int .u64 ez) (.int .i64 dy) (.int .i64 dP);go_simp;clear r0 r1 r2 r3 f0 f1 f2 f3 fy mN;clear s0 s1 s2 s3 hs;refine hK _ _ ?_;clear hK K;refine Yl 4 fun K hK=>?_;go_simp;refine hK _ _ ?_;clear hK K;refine Ye ?_;have DJ:=aa di;clear di;go_wp2_with fail
    obtain⟨t0,t1,t2,t3,_⟩:=DJ.o.hJ;rw[pJ.o];refine bodyPost_ret (v:=.tuple #[vd,.agg #[.int .i64 cZ,.int .u64 ez,.int .i64 dy,.int .i64 dP],.nilIface]) (by rw[iA rfl];go_simp) rfl ⟨_,Hd5,_,[],_,rfl,HD5.o,bJ.none,Au.o,DJ.o.p,jG⟩
  ·obtain⟨be4,se4,rfl,rfl⟩:=cI j9 vc;clear j9;have pJ:=aa (show res=(c4,[],Hd.zero,code) by rw[HR.o,if_pos vc]);obtain⟨r0,r1,r2,r3,f0,f1,f2,f3⟩:=ew.hJ;have rl:=ew.aG;have aU:=Holds.nz ew (.int .i64 0) (.int .u64 0) (.int .i64 0) (.int .i64 0);have bV:=qQ.nz gh (.int .i64 0) (.int .u64 0) (.int .i64 0) (.int .i64 0);have Ot:=aa aU;clear ew aU qQ;go_wp2_with fail
   obtain⟨t0,t1,t2,t3,_⟩:=Ot.o.hJ;rw[pJ.o];refine bodyPost_ret (v:=.tuple #[.slice none 0 0,.agg #[.int .i64 0,.int .u64 0,.int .i64 0,.int .i64 0],.iface 141 (.pointer (some ⟨be4,0,none⟩))]) (by rw[iA rfl];go_simp) rfl ⟨_,[],_,_,_,rfl,au.nil _ _,HE.o,Au.o,Ot.o.p,bV⟩
 ·obtain⟨be,se,rfl,rfl⟩:=cI he hc;clear he;have pJ:=aa (show res=(c,[],Hd.zero,JB) by rw[HR.o,if_pos hc]);have Au:=lS;have qQ:=cY;have ew:Holds w1 ((gh,.cells #[.int .i64 0,.int .u64 0,.int .i64 0,.int .i64 0] 59)::(H++(Hc++([(be,.cells #[.int .i64 JB,.string se] 143)]++Fr)))):=aB.p;clear aB cY;obtain⟨r0,r1,r2,r3,f0,f1,f2,f3⟩:=ew.hJ;have rl:=ew.aG;have aU:=Holds.nz ew (.int .i64 0) (.int .u64 0) (.int .i64 0) (.int .i64 0);have bV:=qQ.nz gh (.int .i64 0) (.int .u64 0) (.int .i64 0) (.int .i64 0);have Ot:=aa aU;clear ew aU qQ;go_wp2_with fail
  obtain⟨t0,t1,t2,t3,_⟩:=Ot.o.hJ;rw[pJ.o];refine bodyPost_ret (v:=.tuple #[.slice none 0 0,.agg #[.int .i64 0,.int .u64 0,.int .i64 0,.int .i64 0],.iface 141 (.pointer (some ⟨be,0,none⟩))]) (by rw[iA rfl];go_simp) rfl ⟨_,[],_,_,_,rfl,au.nil _ _,HE.o,Au.o,Ot.o.p,bV⟩
end
section
variable{b cb g cap:Nat}{mv:Value}{c:CM}{s:SM}{H Hc Fr:HL}{w:World}
theorem uB.del{hs:List (Int×Hd)}(h:uB hs)(a:Int):uB (vI hs a):=by
 unfold vI;split
 ·rename_i i _;refine⟨?_,fun p hp=>h.rng p (List.mem_of_mem_eraseIdx hp)⟩;exact List.Nodup.sublist ((List.eraseIdx_sublist hs i).map _) h.nodup
 ·exact h
theorem Q5(y:List YB)(k p:Int):(mW y k p).1.length=y.length:=by
 unfold mW;split
 ·rfl
 ·split
  ·exact oK _ _ _
  ·rfl
theorem oV.drop{P:Nat}{y:List YB}(h:oV P y)(k n:Int):oV P (mW y k n).1:=by
 unfold mW;split
 ·exact h
 ·rename_i x p hx;have:=h.at_ (Ve hx);split
  ·exact h.set (by simpa using this.1) this.2
  ·exact h
def T4(s:SM)(n:Int):SM:={s with hs:=vI s.hs n}
theorem cr.del(h:cr b cb s H):∃yb mb,(∀(w:World) (F:HL),Holds w (H++F)->w.cell? ⟨b,0,none⟩=some (.pointer (some ⟨yb,0,none⟩))∧w.cell? ⟨b,1,none⟩=some (.pointer (some ⟨cb,0,none⟩))∧
  w.cell? ⟨b,2,none⟩=some (.int .i64 (s.B:Int))∧w.cell? ⟨b,3,none⟩=some (.int .i64 (s.P:Int))∧w.cell? ⟨b,4,none⟩=some (.int .i64 (s.Z:Int))∧w.cell? ⟨b,5,none⟩=some (.map (some mb))∧w.cell? ⟨b,6,none⟩=some (.int .i64 s.op))∧
  ∀(a:Int) (w:World) (F:HL),Holds w (H++F)->0<=a->a<=1000000->∃w' H',(∀ty,(Builtin.delete_ #[105,3] ty #[.map (some mb),.int .i64 a]).run Tryz.prog w=.ok (.tuple #[]) w')∧cr b cb (T4 s a) H'∧Holds w' (H'++F)∧af w w':=by
 obtain⟨yb,mb,es,clock,Hy,hy,cj,bD,yW,ik,im,Lp,rfl⟩:=h;refine⟨yb,mb,fun w F hX=>⟨hX.ae 0,hX.ae 1,hX.ae 2,hX.ae 3,hX.ae 4,hX.ae 5,hX.ae 6⟩,fun a w F hX h0 h1=>?_⟩;have hb:w.heap[mb]?=some (.map es clock):=hX.get (by simp);obtain⟨nk,Bm,ant,anu⟩:=adD hb cj yW bD h0 h1;have h2:Holds w ((mb,.map es clock)::((b,FR yb cb mb s)::(Hy++F))):=hX.p;have h3:=h2.aaM (.map nk clock);refine⟨_,(b,FR yb cb mb (T4 s a))::((mb,.map nk clock)::Hy),Bm,⟨yb,mb,nk,clock,Hy,hy,anu,ant,yW.del a,ik,im,Lp,rfl⟩,?_,(af.refl w).aaM mb (.map nk clock)⟩;show Holds _ ((b,FR yb cb mb s)::((mb,.map nk clock)::(Hy++F)));exact Holds.swap (A:=[_]) (B:=[_]) h3
def fF(s:SM)(n:Int):SM×Int:=
 if(bQ s n).2.2≠0 then(s,(bQ s n).2.2)else({T4 s n with y:=(mW s.y (bQ s n).1 (bQ s n).2.1).1},(mW s.y (bQ s n).1 (bQ s n).2.1).2)
theorem Q6{s:SM}{n:Int}(hp:lH s.B s.P s.Z=true)(h:(bQ s n).2.2=0):0<=n∧n<=1000000:=by
 have hmb:=bO hp;have hmul:(s.B:Int)*s.P<=256:=by
  have:=Int.mul_le_mul (show(s.B:Int)<=32 by omega) (show(s.P:Int)<=8 by omega) (by omega) (by omega);omega
 unfold bQ at h;split at h
 ·exact absurd h (by decide)
 ·rename_i hb;have:=EW (B:=s.B) (P:=s.P) (n:=n) (by omega);omega
theorem Cd(n:Int)(h:cr b cb s H)(hH:Holds w (H++Fr)):Calls Tryz.prog 50 #[.pointer (some ⟨b,0,none⟩),.int .i64 n] w (EA b cb (fF s n).1 (fF s n).2 w Fr):=by
 have HA:=aa (EX n h hH);have kV:=aa h;have Eo:=aa (fun hh=>Q6 (n:=n) h.sm hh);have HR:=aa (show fF s n=if(bQ s n).2.2≠0 then(s,(bQ s n).2.2)else({T4 s n with y:=(mW s.y (bQ s n).1 (bQ s n).2.1).1},(mW s.y (bQ s n).1 (bQ s n).2.1).2)from rfl);generalize fF s n=res at*;generalize bQ s n=ak at*;obtain⟨ab,ap,JB⟩:=ak;dsimp only at*;have k1:=cS;have k2:=cC;clear hH h;go_enter func50,ntmps50;go_upto_region 2 with fail
 refine HA.o.mono ?_;rintro e w1⟨ve,He,rfl,he,aB,aX⟩;dsimp only at he;have HE:=aa he;clear HA;by_cases hc:JB=0
 ·subst hc;obtain⟨rfl,rfl⟩:=de he;clear he;rw[if_neg (by simp)]at HR;obtain⟨uZ,qM⟩:=Eo.o rfl;have aD:Holds w1 (H++Fr):=aB;obtain⟨yb,mb,bm,ahc⟩:=kV.o.del;obtain⟨x0,x1,x2,x3,x4,x5,x6⟩:=bm w1 _ aD;obtain⟨w2,H2,Bm,tg,aU,bV⟩:=ahc n w1 _ aD uZ qM;have kh:=aa tg;have bI:=aX.trans bV;clear aB aD bm ahc tg aX bV uZ qM;go_upto_region 5 with fail
  clear x0 x1 x2 x3 x4 x5 x6 Bm;obtain⟨yb3,mb3,vJ,zY⟩:=kh.o.ag4;obtain⟨x0,x1,x2,x3,x4,x5,x6⟩:=vJ w2 _ aU;have HD:=aa (zY _ _ _ (fun Hy w F hy hH=>QK ab ap hy hH) (Q5 _ _ _) w2 _ aU);clear vJ zY aU;go_wp2_with fail
  refine HD.o.mono ?_;rintro e w3⟨Xi,Xj,H3,rfl,pe,nE,bg,dJ⟩;have Ja:=aa pe;have xw:=aa nE;have zJ:=aa bg;clear pe nE bg HD;go_wp2_with fail
  go_ret;rw[HR.o];exact⟨_,_,H3,rfl,Ja.o,xw.o,zJ.o,bI.trans dJ⟩
 ·obtain⟨be,se,rfl,rfl⟩:=cI he hc;clear he;rw[if_pos hc]at HR;have Oi:=aa aB;clear aB;go_wp2_with fail
  go_ret;rw[HR.o];exact⟨_,_,H,rfl,HE.o,kV.o,Oi.o.p,aX⟩
end
section
variable{b cb g cap:Nat}{mv:Value}{c:CM}{s:SM}{H Hc Fr:HL}{w:World}
theorem KL{y:List YB}{k p:Int}:p∈cN y k↔∃(x:YB) (i:Nat),uu y k=some x∧p=i∧i<x.ad.length∧(x.ad.getD i (false,false)).1=true:=by
 unfold cN;cases h:uu y k with
 |none=>simp
 |some x=>
  unfold eH;simp only[List.mem_map,List.mem_filter,List.mem_range];constructor
  ·rintro⟨i,⟨h1,h2⟩,rfl⟩;exact⟨x,i,rfl,rfl,h1,h2⟩
  ·rintro⟨x',i,hx,rfl,h1,h2⟩;injection hx with hx;subst hx;exact⟨i,⟨h1,h2⟩,rfl⟩
theorem zr{P:Nat}{y:List YB}(h:oV P y)(k:Int):(cN y k).length<=P:=by
 unfold cN;cases hx:uu y k with
 |none=>simp
 |some x=>
  unfold eH;have h1:=(h.at_ hx).1;have:=mU (fun i=>(x.ad.getD i (false,false)).1) (List.range x.ad.length);simp at this⊢;omega
def iE(s:SM)(k:Int):List Int:=(cN s.y k).map fun p=>k*s.P+p
def anv(L:List Int)(f:Int->Int)(w:World)(F:HL)(out i:Value)(wr:World):Prop:=
 ∃(j:Nat) (Ho:HL),j<=L.length∧i=.int .i64 j∧aZ out ((L.take j).map f) Ho∧Holds wr (Ho++F)∧af w wr
theorem Q7(k:Int)(h:cr b cb s H)(hH:Holds w (H++Fr))(hy:oV s.P s.y)(rQ:0<=k)(p6:k<s.B):Calls Tryz.prog 78 #[.pointer (some ⟨b,0,none⟩),.int .i64 k] w (cB (fun v H'=>aZ v (iE s k) H') w (H++Fr)):=by
 obtain⟨yb,mb,bm,Ln⟩:=h.ye;have pd:=aa bm;have Xk:=aa (Ln k w _ hH);have Ol:=aa (bO h.sm);have qF:=aa (fun(p:Int) (wx:World) (F:HL) (hx:Holds wx F) (h1:0<=p) (h2:p<s.P)=>JT (s.B:Int) s.P s.Z k p wx F hx h.sm rQ p6 h1 h2);have Xl:Zh (∀p∈cN s.y k,0<=p∧p<(s.P:Int)):=aa (fun p hp=>by
  obtain⟨x,i,hx,rfl,hi,_⟩:=KL.1 hp;have:=(hy.at_ hx).1;omega)
 have hL:=zr hy k;have Wx:=aa (show iE s k=(cN s.y k).map fun p=>k*s.P+p from rfl);generalize iE s k=res at*;generalize cN s.y k=L at*;have Ow:L.length<=8:=by have:=Ol.o;omega
 obtain⟨x0,x1,x2,x3,x4,x5,x6⟩:=bm w _ hH;clear h bm Ln hH hy hL rQ p6;go_enter func78,ntmps78;go_upto_region 5 with fail
 refine Xk.o.mono ?_;rintro e w1⟨v,Hl,rfl,hv,ax,aK⟩;have HVL:=aa hv;obtain⟨Al,cl,rfl⟩:=hv.val;clear hv Xk x0 x1 x2 x3 x4 x5 x6;go_wp2_with fail
 go_loopw [5,17] (fun out i wr=>anv L (fun p=>k*s.P+p) w (Hl++(H++Fr)) out i wr) (fun _ i _=>L.length-(intOf i).toNat)
 case atStart=>exact⟨0,[],by omega,rfl,au.nil _ _,ax,aK⟩
 case round=>
  clear ax aK;obtain⟨j,Ho,hj,rfl,ho,eh,gf⟩:=hrel;have HOU:=aa ho;clear ho;by_cases aG:j<L.length
  ·have hp:Holds wr (Hl++(Ho++(H++Fr))):=eh.p;obtain⟨_,A,c9,gM,DI,FL,ha⟩:=HVL.o.at_ hp;injection gM with gM _ kS;subst gM kS;obtain⟨bl,ol,rfl,bm⟩:=ha (by omega);have ff:=bm j (.int .i64 L[j]) (by simp[aG]);clear bm;have HX:=aa (Xl.o L[j] (cX aG));have jP:=aa (show(L.take (j+1)).map (fun p=>k*(s.P:Int)+p)=(L.take j).map (fun p=>k*(s.P:Int)+p)++[k*(s.P:Int)+L[j]] by rw[gB aG,dm];rfl);obtain⟨p,hpe⟩:∃p,p=L[j]:=⟨_,rfl⟩;rw[<-hpe]at ff HX jP;obtain⟨x0,x1,x2,x3,x4,x5,x6⟩:=pd.o wr (Ho++(Hl++Fr)) (eh.p);have Lr:=aa (qF.o p wr _ eh HX.o.1 HX.o.2);have hjn:(j:Int)<(L.length:Int):=by omega
   clear hpe ha hp eh;go_upto_region 8 with fail
   refine Lr.o.mono ?_;rintro e w2⟨rfl,aB,aX⟩;have cY:=gf.trans aX;clear gf aX x0 x1 x2 x3 x4 x5 x6 Lr;generalize k*(s.P:Int)+p=pn at*;have nW:=aa (show((L.take j).map (fun p=>k*(s.P:Int)+p)).length<=8 by simp;omega);generalize(L.take j).map (fun p=>k*(s.P:Int)+p)=ot at*;go_wp2_with (at_builtin;refine al ud (by rfl) (.tmp 21) (.tmp 29) (by rfl) (by rfl) (by rfl) HOU.o (aB.bP _) ag.one (by simp[Value.oneCell']) (by have:=nW.o;simp only[maxLen];omega) (by have:=nW.o;omega) ?_;intro A' c' w' H' ay aD bj)
   go_roundw
   case rel=>
    refine⟨j+1,H',by omega,by go_num,?_,aD,(cY.alloc _).trans bj⟩;rw[jP.o];unfold aZ;rw[aY,dm];exact ay
   case measure=>simp only[intOf];omega
  ·obtain rfl:j=L.length:=by omega
   rw[fB]at HOU;have hjn:¬(L.length:Int)<(L.length:Int):=by omega
   go_wp2_with fail
   go_ret;rw[Wx.o];exact⟨_,Ho,rfl,HOU.o,eh.p,gf⟩
end
section
variable{b cb g cap:Nat}{mv:Value}{c:CM}{s:SM}{H Hc Fr:HL}{w:World}
def fc(s:SM)(k:Nat):List Int:=((List.range k).map fun i:Nat=>iE s i).flatten
def aC(s:SM):List Int:=fc s s.B
theorem tc(s:SM)(k:Nat):fc s (k+1)=fc s k++iE s k:=by
 unfold fc;rw[ub,dm,qe];simp
theorem zt{s:SM}(h:oV s.P s.y)(k:Int):(iE s k).length<=s.P:=by
 unfold iE;rw[bY];exact zr h k
theorem Eb{s:SM}(h:oV s.P s.y)(k:Nat):(fc s k).length<=k*s.P:=by
 induction k with
 |zero=>simp[fc]
 |succ k ih=>
  rw[tc,aY,Nat.succ_mul];have:=zt h k;omega
def ai9(f:Nat->List Int)(n:Nat)(w:World)(F:HL)(out i:Value)(wr:World):Prop:=
 ∃(j:Nat) (Ho:HL),j<=n∧i=.int .i64 j∧aZ out (f j) Ho∧Holds wr (Ho++F)∧af w wr
theorem rp(w:World):Calls Tryz.prog 31 #[.pointer none] w (fun e w'=>e=.returned (.slice none 0 0)∧w=w'):=by
 go_enter func31,ntmps31;go_wp2_with fail
 go_ret;exact⟨rfl,rfl⟩
theorem M3(h:cr b cb s H)(hH:Holds w (H++Fr)):Calls Tryz.prog 103 #[.pointer (some ⟨b,0,none⟩)] w (fun e w'=>e=.returned (.pointer (some ⟨cb,0,none⟩))∧w=w'):=by
 obtain⟨yb,mb,bm⟩:=h.cells;obtain⟨x0,x1,x2,x3,x4,x5,x6⟩:=bm w _ hH;clear h hH bm;go_enter func103,ntmps103;go_wp2_with fail
 go_ret;exact⟨rfl,rfl⟩
theorem jz(h:cr b cb s H)(hH:Holds w (H++Fr))(hy:oV s.P s.y):Calls Tryz.prog 31 #[.pointer (some ⟨b,0,none⟩)] w (cB (fun v H'=>aZ v (aC s) H') w (H++Fr)):=by
 obtain⟨yb,mb,bm⟩:=h.cells;have pd:=aa bm;have DK:=bO h.sm;have HBK:=aa (fun(k:Int) (wx:World) (F:HL) (hx:Holds wx (H++F)) (h1:0<=k) (h2:k<s.B)=>Q7 k h hx hy h1 h2);have nW:=aa (fun(k:Nat) (hk:k<=s.B)=>show(fc s k).length<=256 by
  have h1:=Eb hy k;have h2:k*s.P<=32*8:=Nat.mul_le_mul (by omega) (by omega);omega)
 have od:=aa (fun k=>show(iE s k).length<=8 by have:=zt hy k;omega);have Wx:=aa (show aC s=fc s s.B from rfl);generalize aC s=res at*;obtain⟨n,hn⟩:∃n,n=s.B:=⟨_,rfl⟩;rw[<-hn]at Wx nW HBK DK;obtain⟨x0,x1,x2,x3,x4,x5,x6⟩:=bm w _ hH;have jD:=af.refl w;rw[<-hn]at x2;have HN:=aa hn;clear h bm hy hn;go_enter func31,ntmps31;go_wp2_with fail
 go_loopw [3,12] (fun out i wr=>ai9 (fc s) n w (H++Fr) out i wr) (fun _ i _=>n-(intOf i).toNat)
 case atStart=>exact⟨0,[],by omega,rfl,au.nil _ _,hH,jD⟩
 case round=>
  clear hH jD x0 x1 x2 x3 x4 x5 x6;obtain⟨k,Ho,hk,rfl,ho,eh,gf⟩:=hrel;have HOU:=aa ho;clear ho;by_cases aG:k<n
  ·have zN:(k:Int)<(n:Int):=by omega
   have zI:=aa (HBK.o (k:Int) wr (Ho++Fr) (eh.p) (by omega) (by exact_mod_cast aG));have Ox:=aa (tc s k);have FV:=aa (nW.o (k+1) (by omega));rw[Ox.o,aY]at FV;have Lr:=aa (od.o (k:Int));clear eh;generalize fc s k=ot at*;generalize iE s (k:Int)=pg at*;go_upto_region 8 with fail
   refine zI.o.mono ?_;rintro e w2⟨v2,H2,rfl,mg,aB,aX⟩;have HV2:=aa mg;have aD:Holds w2 (Ho++(H2++(H++Fr))):=aB.p;have HSR:=aa (mg.at_ aB);have cY:=gf.trans aX;clear mg aB aX gf zI;go_wp2_with (at_builtin;refine al ud (by rfl) (.tmp 15) (.tmp 18) (by rfl) (by rfl) (by rfl) HOU.o aD HSR.o (by intro x hx;obtain⟨z,_,rfl⟩:=List.mem_map.1 hx;simp[Value.oneCell']) (by have:=FV.o;simp only[maxLen];omega) (by have:=FV.o;omega) ?_;intro A' c' w' H' ay aU bV)
   go_roundw
   case rel=>
    refine⟨k+1,H',by omega,by go_num,?_,aU.p,cY.trans bV⟩;rw[Ox.o];unfold aZ;rw[aY,dm];exact ay
   case measure=>simp only[intOf];omega
  ·obtain rfl:k=n:=by omega
   have zN:¬(k:Int)<(k:Int):=by omega
   have Xn:=aa eh;clear eh;go_wp2_with fail
   go_ret;rw[Wx.o];exact⟨_,Ho,rfl,HOU.o,Xn.o,gf⟩
end
section
variable{b cb g cap:Nat}{mv:Value}{c:CM}{s:SM}{H Hc Fr:HL}{w:World}
end
section
variable{b cb g cap:Nat}{mv:Value}{c:CM}{s:SM}{H Hc Fr:HL}{w:World}
def adI(k:Nat):List Int:=(List.range k).map fun i:Nat=>(i:Int)
def bE(s:SM)(c:CM):Int:=dK s c+s.P*(dR s c).length
end
section
variable{b cb g cap:Nat}{mv:Value}{c:CM}{s:SM}{H Hc Fr:HL}{w:World}
end
section
variable{b cb g cap:Nat}{mv:Value}{c:CM}{s:SM}{H Hc Fr:HL}{w:World}
end
section
variable{b cb g cap:Nat}{mv:Value}{c:CM}{s:SM}{H Hc Fr:HL}{w:World}
theorem CM.ok.jE(h:c.ok)(good:Bool):(c.jE good).1.ok:=by
 unfold CM.jE;split
 ·exact h
 ·split
  ·exact h
  ·obtain⟨h1,h2,h3,h4,h5,h6,h7,h8,h9,Xe,h11,h12,h13,h14⟩:=h;refine⟨h1,h2,h3,h4,h5,h6,h7,h8,?_,Xe,?_,h12,?_,fun x hx=>?_⟩
   ·show 0<=c.ops+1;omega
   ·show c.bZ<=c.ops+1;omega
   ·show c.dF<=c.ops+1;omega
   ·obtain⟨a1,a2,a3,a4,a5,a6⟩:=h14 x hx;exact⟨a1,a2,a3,a4,a5,by show x.df<=c.ops+1;omega⟩
theorem CM.ok.read(h:c.ok)(k p:Int):(c.read k p).1.ok:=by
 unfold CM.read;dsimp only;split
 ·exact h.jE _
 ·split
  ·exact h.jE _
  ·exact h.jE _
theorem J2(n:Nat):∀(s:SM) (c:CM) (k:Int),c.ok->(eW n s c k).2.1.ok:=by
 induction n with
 |zero=>intro s c k h;exact h
 |succ n ih=>
  intro s c k h;rw[eW];split
  ·exact h.read _ _
  ·split
   ·exact ih _ _ _ (h.read _ _)
   ·exact ih _ _ _ (h.read _ _)
theorem VI(s:SM){c:CM}(k:Int)(h:c.ok):(fJ s c k).2.1.ok:=by
 have hA:(fq s c k).2.1.ok:=by
  unfold fq;split
  ·split
   ·exact J2 _ _ _ _ h
   ·exact J2 _ _ _ _ h
  ·exact h
 unfold fJ;split
 ·exact hA
 ·unfold qj;split
  ·exact hA
  ·exact hA
theorem KM(n:Nat):∀(k:Nat) (s:SM) (c:CM),c.ok->c.iV (dM n k s c).2.1 (8*n)∧s.iV (dM n k s c).1∧(dM n k s c).2.1.ok:=by
 induction n with
 |zero=>intro k s c h;exact⟨CM.iV.refl c,SM.iV.refl s,h⟩
 |succ n ih=>
  intro k s c h;obtain⟨h1,h2⟩:=ER s c (k:Int) (wj h k).2;have h3:=VI s (k:Int) h;obtain⟨i1,i2,i3⟩:=ih (k+1) (fJ s c k).1 (fJ s c k).2.1 h3;rw[dM];split
  ·exact⟨h2.mono (by omega),h1,h3⟩
  ·exact⟨(h2.trans i1).mono (by omega),h1.trans i2,i3⟩
theorem J3(h:c.ok):c.iV (bW c).2.1 (8*c.blocks.length)∧(SM.fresh c.blocks.length c.P c.Z).iV (bW c).1∧(bW c).2.1.ok:=KM _ _ _ _ h
end
theorem KN{s:SM}{c:CM}{k:Int}(h1:c.bu k=0)(h2:c.eZ k=false):fJ s c k=(s,c,0):=by
 have hA:fq s c k=(s,c,0):=by unfold fq;rw[if_neg (by omega)]
 unfold fJ;rw[hA,if_neg (by simp)];unfold qj;rw[if_neg (by simp[h2])]
theorem Ec{c:CM}(h:∀k:Nat,c.bu k=0∧c.eZ k=false)(n:Nat):∀(k:Nat) (s:SM),dM n k s c=(s,c,0):=by
 induction n with
 |zero=>intro k s;rfl
 |succ n ih=>
  intro k s;rw[dM,KN (h k).1 (h k).2,if_neg (by simp)];exact ih (k+1) s
theorem M5{c:CM}(h:∀k:Nat,c.bu k=0∧c.eZ k=false):bW c=(SM.fresh c.blocks.length c.P c.Z,c,0):=Ec h _ _ _
theorem Pg{B P Z:Nat}{marks:List Int}{ms:List Mi}{k:Int}{x:CB}(h:(CM.new B P Z marks ms).pY k=some x):x=CB.new P Z (marks.contains k):=by
 obtain⟨i,rfl,hi,hx,_⟩:=CM.lN h;have tJ:i<B:=by simpa[CM.new]using hi
 have h2:(CM.new B P Z marks ms).blocks[i]?=some (CB.new P Z (marks.contains (i:Int))):=by
  show((List.range B).map fun k:Nat=>CB.new P Z (marks.contains (k:Int)))[i]?=_;rw[dW,pf tJ];rfl
 rw[h2]at hx;injection hx with hx;exact hx.symm
theorem J4(B P Z:Nat)(marks:List Int)(ms:List Mi)(k:Int):(CM.new B P Z marks ms).bu k=0:=by
 unfold CM.bu;cases h:(CM.new B P Z marks ms).pY k with
 |none=>rfl
 |some x=>rw[Pg h];rfl
theorem Q8(B P Z:Nat)(ms:List Mi)(k:Int):(CM.new B P Z [] ms).eZ k=false:=by
 unfold CM.eZ;cases h:(CM.new B P Z [] ms).pY k with
 |none=>rfl
 |some x=>rw[Pg h];rfl
theorem qw(n:Int):aq [] n=none:=rfl
theorem iH(a:Int)(x:Hd)(hs:List (Int×Hd))(n:Int):aq ((a,x)::hs) n=if a=n then some x else aq hs n:=by
 unfold aq;by_cases h:a=n
 ·subst h;simp
 ·have:(a==n)=false:=by simpa using h
  simp[List.find?_cons,this,h]
theorem G2(hs:List (Int×Hd))(a:Int)(x:Hd)(n:Int)(h:aq hs a=none):aq (hs++[(a,x)]) n=if n=a then some x else aq hs n:=by
 induction hs with
 |nil=>
  rw[jS,iH,qw];by_cases e:a=n
  ·rw[if_pos e,if_pos e.symm]
  ·rw[if_neg e,if_neg (fun e2=>e e2.symm)]
 |cons q t ih=>
  obtain⟨b,y⟩:=q;rw[iH]at h;by_cases e:b=a
  ·rw[if_pos e]at h;exact absurd h (by simp)
  ·rw[if_neg e]at h;rw[tZ,iH,iH,ih h];by_cases e1:b=n
   ·rw[if_pos e1,if_pos e1,if_neg (fun e2=>e (e1.trans e2))]
   ·rw[if_neg e1,if_neg e1]
theorem EZ{hs:List (Int×Hd)}{a:Int}(x:Hd)(h:aq hs a=none):pN hs a x=hs++[(a,x)]:=by
 unfold pN;cases hf:hs.findIdx? fun p=>p.1==a with
 |none=>rfl
 |some i=>obtain⟨_,_,h2⟩:=CF hf;rw[h2]at h;exact absurd h (by simp)
theorem lg{hs:List (Int×Hd)}{a:Int}(x:Hd)(n:Int)(h:aq hs a=none):aq (pN hs a x) n=if n=a then some x else aq hs n:=by
 rw[EZ x h,G2 hs a x n h]
theorem Q9{hs:List (Int×Hd)}{n:Int}{x:Hd}(h:aq hs n=some x):(n,x)∈hs:=by
 induction hs with
 |nil=>exact absurd h (by simp[qw])
 |cons q t ih=>
  obtain⟨b,y⟩:=q;rw[iH]at h;by_cases e:b=n
  ·rw[if_pos e]at h;injection h with h;subst e h;exact dC
  ·rw[if_neg e]at h;exact fA _ (ih h)
theorem Ed{hs:List (Int×Hd)}{n:Int}(h:∀x,(n,x)∉hs):aq hs n=none:=by
 cases e:aq hs n with
 |none=>rfl
 |some x=>exact absurd (Q9 e) (h x)
theorem Ra(q:Int×Hd)(t:List (Int×Hd))(a:Int):vI (q::t) a=if q.1=a then t else q::vI t a:=by
 unfold vI;rw[List.findIdx?_cons];by_cases e:q.1=a
 ·have:(q.1==a)=true:=by simpa using e
  rw[if_pos e,if_pos this];rfl
 ·have:¬(q.1==a)=true:=by simpa using e
  rw[if_neg e,if_neg this];cases List.findIdx? (fun p=>p.1==a) t with
  |none=>rfl
  |some i=>rfl
theorem Rb{hs:List (Int×Hd)}(a n:Int)(hw:(hs.map (·.1)).Nodup):aq (vI hs a) n=if n=a then none else aq hs n:=by
 induction hs with
 |nil=>show aq [] n=_;rw[qw];split<;>rfl
 |cons q t ih=>
  obtain⟨b,y⟩:=q;rw[ku,List.nodup_cons]at hw;rw[Ra];by_cases e:b=a
  ·rw[if_pos e,iH];by_cases e1:n=a
   ·rw[if_pos e1];refine Ed fun x hx=>hw.1 ?_;show b∈_;rw[e,<-e1];exact List.mem_map.2 ⟨(n,x),hx,rfl⟩
   ·rw[if_neg e1,if_neg (fun e2=>e1 (e2.symm.trans e))]
  ·rw[if_neg e,iH,iH,ih hw.2];by_cases e1:b=n
   ·rw[if_pos e1,if_pos e1,if_neg (fun e2=>e (e1.trans e2))]
   ·rw[if_neg e1,if_neg e1]
theorem key_inj{P k p k' p':Nat}(hp:p<P)(hp':p'<P)(h:(k:Int)*P+p=(k':Int)*P+p'):k=k'∧p=p':=by
 have h2:k*P+p=k'*P+p':=by
  have e1:((k*P+p:Nat):Int)=(k:Int)*P+p:=by simp
  have e2:((k'*P+p':Nat):Int)=(k':Int)*P+p':=by simp
  exact Int.ofNat.inj (e1.trans (h.trans e2.symm))
 have d1:(k*P+p)/P=k:=by rw[Nat.add_comm,Nat.add_mul_div_right _ _ (by omega),Nat.div_eq_of_lt hp];omega
 have d2:(k'*P+p')/P=k':=by rw[Nat.add_comm,Nat.add_mul_div_right _ _ (by omega),Nat.div_eq_of_lt hp'];omega
 have hk:k=k':=by rw[<-d1,<-d2,h2]
 subst hk;exact⟨rfl,by omega⟩
theorem qW{c:CM}(k:Nat):c.pY (k:Int)=c.blocks[k]?:=by
 cases h:c.blocks[k]? with
 |some x=>exact CM.O5 h
 |none=>
  have:=List.getElem?_eq_none_iff.1 h;unfold CM.pY;rw[if_neg (by omega)]
theorem lM(y:List YB)(k:Nat):uu y (k:Int)=y[k]?:=by
 unfold uu;split
 ·simp
 ·symm;exact List.getElem?_eq_none_iff.2 (by omega)
theorem dx{α:Type}(l:List α)(k j:Nat)(a:α)(hk:k<l.length):(l.set k a)[j]?=if k=j then some a else l[j]?:=by
 rw[List.getElem?_set];split<;>first|rfl|(rw[if_pos (by omega)])
def CM.Qc(c:CM)(k p:Nat):Option (List UInt8):=(c.blocks[k]?).bind fun x=>x.ad[p]?
def CM.ly(c:CM)(k p:Nat):Option (List UInt8×Hd):=(c.Qc k p).bind fE
def sd(x:CB)(p:Nat):Option (List UInt8×Hd):=(x.ad[p]?).bind fE
theorem j8{c:CM}{k:Nat}{x:CB}(h:c.blocks[k]?=some x)(p:Nat):c.ly k p=sd x p:=by
 unfold CM.ly CM.Qc sd;rw[h];rfl
theorem J5{c:CM}{k:Nat}(h:c.blocks[k]?=none)(p:Nat):c.ly k p=none:=by
 unfold CM.ly CM.Qc;rw[h];rfl
theorem oM{c c':CM}(h:c'.blocks=c.blocks)(k p:Nat):c'.ly k p=c.ly k p:=by unfold CM.ly CM.Qc;rw[h]
theorem wB{c c':CM}{i:Nat}{x':CB}(h:c'.blocks=c.blocks.set i x')(hi:i<c.blocks.length)(k p:Nat):c'.ly k p=if i=k then sd x' p else c.ly k p:=by
 by_cases e:i=k
 ·subst e;rw[if_pos rfl];exact j8 (by rw[h,dx _ _ _ _ hi,if_pos rfl]) p
 ·rw[if_neg e];unfold CM.ly CM.Qc;rw[h,dx _ _ _ _ hi,if_neg e]
theorem E0(n:Nat)(u:UInt8)(hn:28<n):fE (List.replicate n u)=none:=by
 by_cases hu:u=0
 ·subst hu;unfold fE;rw[if_neg];rintro⟨_,h2,_⟩;have h3:(hU (List.replicate n 0) ((List.replicate n (0:UInt8)).length-28)).k=0:=by
   unfold hU;dsimp only;rw[gV,jR,qb];rw[if_pos (by omega)];rfl
  unfold Hd.may at h2;rw[h3]at h2;simp at h2
 ·refine CJ ?_;rw[List.getLast?_replicate,if_neg (by omega)];intro h;injection h with h;exact hu h
theorem zu(Z:Nat)(hZ:128<=Z):fE (jw Z)=none:=E0 _ _ (by omega)
theorem M6{raw old:List UInt8}{Z m:Nat}(hl:raw.length=Z+28)(ho:old=jw Z)(hm:m<Z+28):fE (raw.take m++old.drop m)=none:=by
 refine CJ ?_;have hd:old.drop m=List.replicate (Z+28-m) 255:=by rw[ho];unfold jw;rw[List.drop_replicate]
 rw[hd,List.getLast?_append,List.getLast?_replicate,if_neg (by omega)];simp
section
def gR(s:SM)(k:Nat):Prop:=∀p:Nat,p<s.P->aq s.hs ((k:Int)*s.P+p)=none
def CB.shape(x:CB)(P Z:Nat):Prop:=x.ad.length=P∧0<=x.next∧x.next<=P∧∀p:Nat,x.next<=p->p<P->x.ad[p]?=some (jw Z)
structure aV(s:SM)(c:CM):Prop where
 B:c.blocks.length=s.B
 P:c.P=s.P
 Z:c.Z=s.Z
 pl:lH s.B s.P s.Z=true
 yl:s.y.length=s.B
 vu:oV s.P s.y
 wf:uB s.hs
 Bc:-1<=s.op∧s.op<s.B
 keys:∀n h,aq s.hs n=some h->∃k p:Nat,k<s.B∧p<s.P∧n=(k:Int)*s.P+p
 bit:∀(k:Nat) (z:YB) (p:Nat),s.y[k]?=some z->p<s.P->(z.ad.getD p (false,false)).1=(aq s.hs ((k:Int)*s.P+p)).isSome
 aW:∀(k p:Nat) (h:Hd),k<s.B->p<s.P->aq s.hs ((k:Int)*s.P+p)=some h->∃d,c.ly k p=some (d,h)
 shape:∀(k:Nat) (x:CB),c.blocks[k]?=some x->x.shape s.P s.Z
structure Live(s:SM)(c:CM):Prop where
 on:c.on=true
 LR:∀(k:Nat) (x:CB) (z:YB),c.blocks[k]?=some x->s.y[k]?=some z->s.op=(k:Int)->z.state=2∧z.taken=x.next∧x.mark=false
 Av:∀(k:Nat) (x:CB) (z:YB),c.blocks[k]?=some x->s.y[k]?=some z->s.op≠(k:Int)->x.mark=false->z.state=1∨z.state=3
structure cK(s:SM)(c:CM)(s':SM)(c':CM):Prop where
 B:s'.B=s.B
 P:s'.P=s.P
 Z:s'.Z=s.Z
 hs:s'.hs=s.hs
 kT:c'.bZ=c.bZ
 ms:c'.ms=c.ms
 keep:∀(k p:Nat) (h:Hd),k<s.B->p<s.P->aq s.hs ((k:Int)*s.P+p)=some h->c'.ly k p=c.ly k p
 old:∀(k p:Nat) v,c'.ly k p=some v->c.ly k p=some v
 cont:aV s' c'
variable{s s':SM}{c c':CM}
theorem cK.refl(h:aV s c):cK s c s c:=⟨rfl,rfl,rfl,rfl,rfl,rfl,fun _ _ _ _ _ _=>rfl,fun _ _ _ h=>h,h⟩
theorem cK.trans{s1 s2 s3:SM}{c1 c2 c3:CM}(h:cK s1 c1 s2 c2)(g:cK s2 c2 s3 c3):cK s1 c1 s3 c3:=by
 refine⟨g.B.trans h.B,g.P.trans h.P,g.Z.trans h.Z,g.hs.trans h.hs,g.kT.trans h.kT,g.ms.trans h.ms,?_,fun k p v hv=>h.old k p v (g.old k p v hv),g.cont⟩;intro k p hd hk hp hl;rw[g.keep k p hd (by rw[h.B];exact hk) (by rw[h.P];exact hp) (by rw[h.hs,h.P];exact hl),h.keep k p hd hk hp hl]
theorem aV.below(h:aV s c){k p:Nat}{x:CB}{hd:Hd}(hx:c.blocks[k]?=some x)(hp:p<s.P)(hl:aq s.hs ((k:Int)*s.P+p)=some hd):(p:Int)<x.next:=by
 have hk:k<s.B:=by rw[<-h.B];exact(List.getElem?_eq_some_iff.1 hx).1
 obtain⟨d,hv⟩:=h.aW k p hd hk hp hl;by_cases e:(p:Int)<x.next
 ·exact e
 ·rw[j8 hx,sd,(h.shape k x hx).2.2.2 p (by omega) hp]at hv;have hZ:128<=s.Z:=by have:=bO h.pl;omega
  have:=zu s.Z hZ;rw[Option.bind_some,this]at hv;exact absurd hv (by simp)
theorem aV.OS(h:aV s c){k p:Nat}{x:CB}(hx:c.blocks[k]?=some x)(hp:p<s.P)(hn:x.next<=p):aq s.hs ((k:Int)*s.P+p)=none∧sd x p=none:=by
 constructor
 ·cases e:aq s.hs ((k:Int)*s.P+p)with
  |none=>rfl
  |some hd=>have:=h.below hx hp e;omega
 ·rw[sd,(h.shape k x hx).2.2.2 p hn hp,Option.bind_some];exact zu _ (by have:=bO h.pl;omega)
theorem aV.same(h:aV s c)(hb:c'.blocks=c.blocks)(hP:c'.P=c.P)(hZ:c'.Z=c.Z):aV s c':=by
 refine⟨by rw[hb,h.B],hP.trans h.P,hZ.trans h.Z,h.pl,h.yl,h.vu,h.wf,h.Bc,h.keys,h.bit,?_,?_⟩
 ·intro k p hd hk hp hl;rw[oM hb];exact h.aW k p hd hk hp hl
 ·intro k x hx;rw[hb]at hx;exact h.shape k x hx
theorem aV.uK(h:aV s c){i:Nat}{x x':CB}(hx:c.blocks[i]?=some x)(hb:c'.blocks=c.blocks.set i x')(hP:c'.P=c.P)(hZ:c'.Z=c.Z)(Ax:x'.shape s.P s.Z)
  (hk:∀p hd,p<s.P->aq s.hs ((i:Int)*s.P+p)=some hd->sd x' p=sd x p):aV s c':=by
 have hi:=(List.getElem?_eq_some_iff.1 hx).1;refine⟨by rw[hb,k5,h.B],hP.trans h.P,hZ.trans h.Z,h.pl,h.yl,h.vu,h.wf,h.Bc,h.keys,h.bit,?_,?_⟩
 ·intro k p hd qO hp hl;rw[wB hb hi];by_cases e:i=k
  ·subst e;rw[if_pos rfl,hk p hd hp hl,<-j8 hx];exact h.aW i p hd qO hp hl
  ·rw[if_neg e];exact h.aW k p hd qO hp hl
 ·intro k z hz;rw[hb,dx _ _ _ _ hi]at hz;by_cases e:i=k
  ·rw[if_pos e]at hz;injection hz with hz;rw[<-hz];exact Ax
  ·rw[if_neg e]at hz;exact h.shape k z hz
theorem cK.same(h:aV s c)(hb:c'.blocks=c.blocks)(hP:c'.P=c.P)(hZ:c'.Z=c.Z)(hm:c'.bZ=c.bZ)(LQ:c'.ms=c.ms):cK s c s c':=
 ⟨rfl,rfl,rfl,rfl,hm,LQ,fun k p _ _ _ _=>oM hb k p,fun k p v hv=>by rw[oM hb]at hv;exact hv,h.same hb hP hZ⟩
theorem cK.uK(h:aV s c){i:Nat}{x x':CB}(hx:c.blocks[i]?=some x)(hb:c'.blocks=c.blocks.set i x')(hP:c'.P=c.P)(hZ:c'.Z=c.Z)(hm:c'.bZ=c.bZ)(LQ:c'.ms=c.ms)
  (Ax:x'.shape s.P s.Z)(hk:∀p hd,p<s.P->aq s.hs ((i:Int)*s.P+p)=some hd->sd x' p=sd x p)(ho:∀p v,sd x' p=some v->sd x p=some v):cK s c s c':=by
 have hi:=(List.getElem?_eq_some_iff.1 hx).1;refine⟨rfl,rfl,rfl,rfl,hm,LQ,?_,?_,h.uK hx hb hP hZ Ax hk⟩
 ·intro k p hd _ hp hl;rw[wB hb hi];by_cases e:i=k
  ·subst e;rw[if_pos rfl,j8 hx];exact hk p hd hp hl
  ·rw[if_neg e]
 ·intro k p v hv;rw[wB hb hi]at hv;by_cases e:i=k
  ·subst e;rw[if_pos rfl]at hv;rw[j8 hx];exact ho p v hv
  ·rw[if_neg e]at hv;exact hv
def lC(y y':List YB)(k:Nat)(f:YB->YB):Prop:=∀j:Nat,y'[j]?=if k=j then(y[j]?).map f else y[j]?
theorem lC.BZ{y:List YB}{k:Nat}{z:YB}(hz:y[k]?=some z)(z':YB)(f:YB->YB)(hf:f z=z'):lC y (y.set k z') k f:=by
 intro j;rw[dx _ _ _ _ (List.getElem?_eq_some_iff.1 hz).1];by_cases e:k=j
 ·subst e;rw[if_pos rfl,if_pos rfl,hz,kt,hf]
 ·rw[if_neg e,if_neg e]
theorem lC.wC{y:List YB}{k:Nat}(hz:y[k]?=none)(f:YB->YB):lC y y k f:=by
 intro j;by_cases e:k=j
 ·subst e;rw[if_pos rfl,hz];rfl
 ·rw[if_neg e]
theorem lC.yf{y:List YB}{k:Nat}{z:YB}(hz:y[k]?=some z)(f:YB->YB)(hf:f z=z):lC y y k f:=by
 intro j;by_cases e:k=j
 ·subst e;rw[if_pos rfl,hz,kt,hf]
 ·rw[if_neg e]
def rO(a b:Int)(z:YB):YB:=if z.state=a then{z with state:=b}else z
def BQ(z:YB):YB:=if z.state=1 then{z with state:=2,taken:=0}else z
def T5(z:YB):YB:=if z.state=4 then z else{z with state:=4}
def BR(q:Prop)[Decidable q](z:YB):YB:=if(z.state≠2∧z.state≠3)∨q then z else{z with state:=1,taken:=0}
def ze(z:YB):YB:=if z.state≠2 then z else if(z.ad.length:Int)<=z.taken then z else{z with taken:=z.taken+1}
theorem E3(y:List YB)(k:Nat)(a b:Int):lC y (fX y k a b).1 k (rO a b):=by
 unfold fX;rw[lM];cases hz:y[k]? with
 |none=>exact lC.wC hz _
 |some z=>
  dsimp only;split
  ·exact lC.BZ hz _ _ (by unfold rO;rw[if_pos (by assumption)])
  ·exact lC.yf hz _ (by unfold rO;rw[if_neg (by assumption)])
theorem E4(y:List YB)(k:Nat):lC y (l8 y k).1 k BQ:=by
 unfold l8;rw[lM];cases hz:y[k]? with
 |none=>exact lC.wC hz _
 |some z=>
  dsimp only;split
  ·exact lC.BZ hz _ _ (by unfold BQ;rw[if_pos (by assumption)])
  ·exact lC.yf hz _ (by unfold BQ;rw[if_neg (by assumption)])
theorem zv(y:List YB)(k:Nat):lC y (dL y k).1 k T5:=by
 unfold dL;rw[lM];cases hz:y[k]? with
 |none=>exact lC.wC hz _
 |some z=>
  dsimp only;split
  ·exact lC.yf hz _ (by unfold T5;rw[if_pos (by assumption)])
  ·exact lC.BZ hz _ _ (by unfold T5;rw[if_neg (by assumption)])
theorem Rc(y:List YB)(k:Nat):lC y (nI y k).1 k (BR (cN y k≠[])):=by
 unfold nI;rw[lM];cases hz:y[k]? with
 |none=>exact lC.wC hz _
 |some z=>
  dsimp only;split
  ·exact lC.yf hz _ (by unfold BR;rw[if_pos (by assumption)])
  ·exact lC.BZ hz _ _ (by unfold BR;rw[if_neg (by assumption)])
theorem E5(y:List YB)(k:Nat):lC y (bX y k).1 k ze:=by
 unfold bX;rw[lM];cases hz:y[k]? with
 |none=>exact lC.wC hz _
 |some z=>
  dsimp only;split
  ·exact lC.yf hz _ (by unfold ze;rw[if_pos (by assumption)])
  ·split
   ·exact lC.yf hz _ (by unfold ze;rw[if_neg (by assumption),if_pos (by assumption)])
   ·exact lC.BZ hz _ _ (by unfold ze;rw[if_neg (by assumption),if_neg (by assumption)])
theorem zw(a b:Int)(z:YB):(rO a b z).ad=z.ad:=by unfold rO;split<;>rfl
theorem zx(z:YB):(BQ z).ad=z.ad:=by unfold BQ;split<;>rfl
theorem CK(z:YB):(T5 z).ad=z.ad:=by unfold T5;split<;>rfl
theorem KO(q:Prop)[Decidable q](z:YB):(BR q z).ad=z.ad:=by unfold BR;split<;>rfl
theorem zy(z:YB):(ze z).ad=z.ad:=by unfold ze;split;rfl;split<;>rfl
theorem aV.Br(h:aV s c){k:Nat}{f:YB->YB}(hm:lC s.y s'.y k f)(hf:∀z,(f z).ad=z.ad)(hB:s'.B=s.B)(hP:s'.P=s.P)(hZ:s'.Z=s.Z)(hs:s'.hs=s.hs)(im:-1<=s'.op∧s'.op<s.B)
  (hl:s'.y.length=s.y.length)(cj:oV s.P s'.y):aV s' c:=by
 refine⟨by rw[hB,h.B],by rw[hP,h.P],by rw[hZ,h.Z],by rw[hB,hP,hZ,h.pl],by rw[hl,hB,h.yl],by rw[hP];exact cj,by rw[hs];exact h.wf,by rw[hB];exact im,?_,?_,?_,?_⟩
 ·rw[hs,hB,hP];exact h.keys
 ·rw[hs,hP];intro j z p hz hp;rw[hm j]at hz;by_cases e:k=j
  ·rw[if_pos e]at hz;cases hy:s.y[j]? with
   |none=>rw[hy]at hz;exact absurd hz (by simp)
   |some z0=>
    rw[hy,kt]at hz;injection hz with hz;rw[<-hz,hf];exact h.bit j z0 p hy hp
  ·rw[if_neg e]at hz;exact h.bit j z p hz hp
 ·rw[hs,hB,hP];exact h.aW
 ·rw[hP,hZ];exact h.shape
theorem cK.Br(h:aV s c){k:Nat}{f:YB->YB}(hm:lC s.y s'.y k f)(hf:∀z,(f z).ad=z.ad)(hB:s'.B=s.B)(hP:s'.P=s.P)(hZ:s'.Z=s.Z)(hs:s'.hs=s.hs)(im:-1<=s'.op∧s'.op<s.B)
  (hl:s'.y.length=s.y.length)(cj:oV s.P s'.y):cK s c s' c:=
 ⟨hB,hP,hZ,hs,rfl,rfl,fun _ _ _ _ _ _=>rfl,fun _ _ _ h=>h,h.Br hm hf hB hP hZ hs im hl cj⟩
theorem G3{ps:List (Bool×Bool)}{n:Nat}(h:∀p,p<n->(ps.getD p (false,false)).1=false):eH ps n=[]:=by
 induction n with
 |zero=>rfl
 |succ n ih=>rw[uk,h n (by omega),if_neg (by simp)];exact ih fun p hp=>h p (by omega)
theorem G5{ps:List (Bool×Bool)}{n:Nat}{x:Int}:x∈eH ps n↔∃p:Nat,x=p∧p<n∧(ps.getD p (false,false)).1=true:=by
 unfold eH;rw[List.mem_map];constructor
 ·rintro⟨p,hp,rfl⟩;rw[List.mem_filter,List.mem_range]at hp;exact⟨p,rfl,hp.1,hp.2⟩
 ·rintro⟨p,rfl,h1,h2⟩;exact⟨p,by rw[List.mem_filter,List.mem_range];exact⟨h1,h2⟩,rfl⟩
theorem aV.Gh(h:aV s c){k:Nat}(hk:k<s.B):∃z,s.y[k]?=some z∧z.ad.length=s.P∧0<=z.taken:=by
 have hl:=h.yl;refine⟨s.y[k]'(by omega),bF _,?_⟩;exact h.vu _ (cX _)
theorem aV.rY(h:aV s c){k:Nat}(hk:k<s.B):∃x,c.blocks[k]?=some x:=by
 have hl:=h.B;exact⟨c.blocks[k]'(by omega),bF _⟩
theorem aV.rp(h:aV s c){k:Nat}(hk:k<s.B):cN s.y k=[]↔gR s k:=by
 obtain⟨z,hz,hl,_⟩:=h.Gh hk;unfold cN;rw[lM,hz];dsimp only;rw[hl];constructor
 ·intro e p hp;have hb:=h.bit k z p hz hp;cases hs:aq s.hs ((k:Int)*s.P+p)with
  |none=>rfl
  |some hd=>
   rw[hs]at hb;have:(p:Int)∈eH z.ad s.P:=G5.2 ⟨p,rfl,hp,hb⟩;rw[e]at this;exact absurd this (by simp)
 ·intro hn;refine G3 fun p hp=>?_;rw[h.bit k z p hz hp,hn p hp];rfl
end
section
variable{s s':SM}{c c':CM}
theorem Gz(h:c.on=true):c.jE true=({c with ops:=c.ops+1},c.mi,0):=by unfold CM.jE;rw[h];simp
theorem E6{P Z p:Nat}(h:p<P):(gQ P Z)[p]?=some (jw Z):=by unfold gQ;rw[qb,if_pos h]
theorem GJ(n m:Nat)(u:UInt8)(x:CB)(hx:x.ad=List.replicate n (List.replicate m u))(hm:28<m)(p:Nat):sd x p=none:=by
 unfold sd;rw[hx,qb];split
 ·rw[Option.bind_some];exact E0 _ _ hm
 ·rfl
theorem Ce{α:Type}{l:List α}{k:Nat}{a:α}(h:l[k]?=some a):l.set k a=l:=by
 refine List.ext_getElem? fun j=>?_;rw[dx _ _ _ _ (List.getElem?_eq_some_iff.1 h).1];by_cases e:k=j
 ·subst e;rw[if_pos rfl,h]
 ·rw[if_neg e]
theorem CL(hC:aV s c)(hL:Live s c){k:Nat}{x:CB}(hx:c.blocks[k]?=some x)(hm:x.mark=false)(hn:gR s k):
  ∃x',(bT c k).1.blocks=c.blocks.set k x'∧x'.mark=false∧cK s c s (bT c k).1∧(bT c k).1.ops=c.ops+1∧
   (((bT c k).2=0∧(bT c k).1.on=true∧x'.next=0∧x'.df=x.df+1∧x'.failed=false∧x.failed=false∧c.mi.kind≠1∧c.mi.kind≠2)∨((bT c k).2=4∧(bT c k).1.on=false∧c.mi.kind=2)∨
    ((bT c k).2=5∧(bT c k).1.on=true∧x'={x with failed:=true}∧(c.mi.kind=1∨x.failed=true))):=by
 have hZ:128<=s.Z:=by have:=bO hC.pl;omega
 have Ax:=hC.shape k x hx;have hr:∀(m:Nat) (u:UInt8) (x':CB),x'.ad=List.replicate c.P (List.replicate m u)->28<m->(∀p hd,p<s.P->aq s.hs ((k:Int)*s.P+p)=some hd->sd x' p=sd x p)∧(∀p v,sd x' p=some v->sd x p=some v):=by
  intro m u x' hp hm;refine⟨fun p hd h1 h2=>?_,fun p v hv=>?_⟩
  ·rw[hn p h1]at h2;exact absurd h2 (by simp)
  ·rw[GJ _ _ _ _ hp hm]at hv;exact absurd hv (by simp)
 have e0:bT c k=kC {c with ops:=c.ops+1} c.mi k x:=by
  unfold bT;rw[qW,hx];show c.erase (k:Int).toNat x=_;rw[Int.toNat_natCast];unfold CM.erase;rw[Gz hL.on];dsimp only;rw[if_neg (by simp),if_neg (by simp[hm])]
 rw[e0];unfold kC;have hP:=hC.P;have Ts:=hC.Z;by_cases k2:c.mi.kind=2
 ·rw[if_pos k2];cases hf:x.failed with
  |true=>
   rw[if_pos rfl];refine⟨x,?_,hm,cK.same hC rfl rfl rfl rfl rfl,rfl,aE (aQ ⟨rfl,rfl,k2⟩)⟩;show c.blocks=_;exact(Ce hx).symm
  |false=>
   rw[if_neg (by simp)];refine⟨_,rfl,hm,?_,rfl,aE (aQ ⟨rfl,rfl,k2⟩)⟩;obtain⟨r1,r2⟩:=hr (c.Z+28) c.mi.fill {x with ad:=List.replicate c.P (List.replicate (c.Z+28) c.mi.fill),next:=if c.mi.fill=255 then 0 else(c.P:Int),df:=x.df+1} rfl (by omega);refine cK.uK hC hx rfl rfl rfl rfl rfl ⟨?_,?_,?_,?_⟩ r1 r2
   ·show(List.replicate c.P _).length=s.P;rw[gV,hP]
   ·show 0<=(if c.mi.fill=255 then(0:Int)else c.P);split<;>omega
   ·show(if c.mi.fill=255 then(0:Int)else c.P)<=s.P;split<;>omega
   ·intro p h1 h2;show(List.replicate c.P (List.replicate (c.Z+28) c.mi.fill))[p]?=_;rw[qb,if_pos (by omega)];have DH:(if c.mi.fill=255 then(0:Int)else c.P)<=p:=h1;split at DH
    ·next hf=>rw[hf,Ts];rfl
    ·omega
 ·rw[if_neg k2];by_cases k1:c.mi.kind=1∨x.failed=true
  ·rw[if_pos k1];refine⟨{x with failed:=true},rfl,hm,?_,rfl,aE (aE ⟨rfl,hL.on,rfl,k1⟩)⟩;exact cK.uK hC hx rfl rfl rfl rfl rfl Ax (fun _ _ _ _=>rfl) (fun _ _ h=>h)
  ·rw[if_neg k1];have k1a:c.mi.kind≠1:=fun e=>k1 (aQ e);have k1b:x.failed=false:=by cases hf:x.failed with|false=>rfl|true=>exact absurd (aE hf) k1
   refine⟨_,rfl,hm,?_,rfl,aQ ⟨rfl,hL.on,rfl,rfl,k1b,k1b,k1a,k2⟩⟩;obtain⟨r1,r2⟩:=hr (c.Z+28) 255 {x with ad:=gQ c.P c.Z,next:=0,df:=x.df+1} rfl (by omega);refine cK.uK hC hx rfl rfl rfl rfl rfl ⟨?_,bG _,?_,?_⟩ r1 r2
   ·show(gQ c.P c.Z).length=s.P;unfold gQ;rw[gV,hP]
   ·show(0:Int)<=s.P;omega
   ·intro p _ h2;show(gQ c.P c.Z)[p]?=_;rw[hP,Ts];exact E6 h2
theorem E7(hC:aV s c)(hL:Live s c){k:Nat}{x:CB}(hx:c.blocks[k]?=some x):
  cK s c (bS s c k).1 (bS s c k).2.1∧(bS s c k).2.1.ops=c.ops+1∧(∀j:Nat,j≠k->(bS s c k).2.1.blocks[j]?=c.blocks[j]?)∧
   (((bS s c k).2.2=0∧Live (bS s c k).1 (bS s c k).2.1∧(bS s c k).2.1.blocks=c.blocks.set k {x with mark:=true}∧(bS s c k).1.op=(if s.op=k then-1 else s.op))∨((bS s c k).2.2=4∧(bS s c k).2.1.on=false∧c.mi.kind=2)):=by
 have hi:=(List.getElem?_eq_some_iff.1 hx).1;have e0:bS s c k=nL s c k x:=by unfold bS;rw[qW,hx];dsimp only;rw[Int.toNat_natCast]
 rw[e0];have e1:c.dX k x=if c.mi.kind=2 then({c with ops:=c.ops+1,on:=false},4)else({c with ops:=c.ops+1,blocks:=c.blocks.set k {x with mark:=true}},0):=by
  unfold CM.dX;rw[Gz hL.on];dsimp only;rw[if_neg (by simp)];rfl
 unfold nL;rw[e1];by_cases k2:c.mi.kind=2
 ·rw[if_pos k2];dsimp only;rw[if_pos (by decide)];exact⟨cK.same hC rfl rfl rfl rfl rfl,rfl,fun _ _=>rfl,aE ⟨rfl,rfl,k2⟩⟩
 ·rw[if_neg k2];dsimp only;rw[if_neg (by simp)];have im:=hC.Bc;have st1:cK s c s {c with ops:=c.ops+1,blocks:=c.blocks.set k {x with mark:=true}}:=
   cK.uK hC hx rfl rfl rfl rfl rfl (hC.shape k x hx) (fun _ _ _ _=>rfl) (fun _ _ h=>h)
  have Dw:=zv s.y k;refine⟨st1.trans (cK.Br st1.cont Dw CK rfl rfl rfl rfl ?_ (pD _ _) (hC.vu.Gy _)),rfl,?_,aQ ⟨rfl,⟨hL.on,?_,?_⟩,rfl,rfl⟩⟩
  ·show-1<=(if s.op=(k:Int)then-1 else s.op)∧(if s.op=(k:Int)then-1 else s.op)<s.B;split<;>omega
  ·intro j hj;show(c.blocks.set k _)[j]?=_;rw[dx _ _ _ _ hi,if_neg (Ne.symm hj)]
  ·intro j xj zj h1 h2 h3;have Oy:(if s.op=(k:Int)then-1 else s.op)=(j:Int):=h3;split at Oy
   ·omega
   ·next ei=>
    have Xv:k≠j:=fun e=>ei (by rw[Oy,e]);have DH:(c.blocks.set k {x with mark:=true})[j]?=some xj:=h1;rw[dx _ _ _ _ hi,if_neg Xv]at DH;have Tt:(dL s.y k).1[j]?=some zj:=h2;rw[Dw j,if_neg Xv]at Tt;exact hL.LR j xj zj DH Tt Oy
  ·intro j xj zj h1 h2 h3 h4;have DH:(c.blocks.set k {x with mark:=true})[j]?=some xj:=h1;by_cases Xv:k=j
   ·rw[dx _ _ _ _ hi,if_pos Xv]at DH;injection DH with DH;rw[<-DH]at h4;exact absurd h4 (by simp)
   ·rw[dx _ _ _ _ hi,if_neg Xv]at DH;have Tt:(dL s.y k).1[j]?=some zj:=h2;rw[Dw j,if_neg Xv]at Tt;refine hL.Av j xj zj DH Tt ?_ h4;intro e;have Oy:(if s.op=(k:Int)then-1 else s.op)≠(j:Int):=h3;rw[if_neg (by omega)]at Oy;exact Oy e
structure JC(s:SM)(c:CM):Prop where
 on:c.on=true
 LR:∀(k:Nat) (x:CB) (z:YB),c.blocks[k]?=some x->s.y[k]?=some z->s.op=(k:Int)->z.state=2
 Av:∀(k:Nat) (x:CB) (z:YB),c.blocks[k]?=some x->s.y[k]?=some z->s.op≠(k:Int)->x.mark=false->z.state=1∨z.state=3
theorem Live.to0(h:Live s c):JC s c:=⟨h.on,fun k x z h1 h2 h3=>(h.LR k x z h1 h2 h3).1,h.Av⟩
theorem JC.XV(h:JC s c)(fi:c'.on=true){k:Nat}{x x':CB}(hx:c.blocks[k]?=some x)(hb:c'.blocks=c.blocks.set k x')(hm:x'.mark=x.mark):JC s c':=by
 have hi:=(List.getElem?_eq_some_iff.1 hx).1;refine⟨fi,?_,?_⟩
 ·intro j xj zj h1 h2 h3;rw[hb,dx _ _ _ _ hi]at h1;by_cases e:k=j
  ·subst e;exact h.LR k x zj hx h2 h3
  ·rw[if_neg e]at h1;exact h.LR j xj zj h1 h2 h3
 ·intro j xj zj h1 h2 h3 h4;rw[hb,dx _ _ _ _ hi]at h1;by_cases e:k=j
  ·subst e;rw[if_pos rfl]at h1;injection h1 with h1;rw[<-h1,hm]at h4;exact h.Av k x zj hx h2 h3 h4
  ·rw[if_neg e]at h1;exact h.Av j xj zj h1 h2 h3 h4
theorem open_spec(hC:aV s c)(hL:JC s c){k:Nat}{x:CB}(hx:c.blocks[k]?=some x)(hm:x.mark=false)(hn:gR s k)(h0:x.next=0):
  cK s c (nM s k) c∧Live (nM s k) c∧(nM s k).op=k:=by
 have hk:k<s.B:=by rw[<-hC.B];exact(List.getElem?_eq_some_iff.1 hx).1
 have im:=hC.Bc;have c1:cK s c (gw s) c∧(∀(j:Nat) (z:YB),s.y[j]?=some z->(gw s).y[j]?=some (if s.op=(j:Int)then rO 2 3 z else z))∧(gw s).op=s.op∧(gw s).hs=s.hs∧(gw s).P=s.P∧(gw s).B=s.B:=by
  unfold gw;split
  ·next e=>
   refine⟨cK.refl hC,fun j z hz=>?_,rfl,rfl,rfl,rfl⟩;rw[if_neg (by omega)];exact hz
  ·next e=>
   obtain⟨o,ho⟩:∃o:Nat,s.op=(o:Int):=⟨s.op.toNat,by omega⟩;have Dw:=E3 s.y o 2 3;rw[<-ho]at Dw;refine⟨cK.Br hC Dw (zw 2 3) rfl rfl rfl rfl im (yw _ _ _ _) (hC.vu.turn _ _ _),fun j z hz=>?_,rfl,rfl,rfl,rfl⟩;show(fX s.y s.op 2 3).1[j]?=_;rw[Dw j,hz];by_cases e1:o=j
   ·rw[if_pos e1,if_pos (by omega)];rfl
   ·rw[if_neg e1,if_neg (by omega)]
 obtain⟨s1,y1,o1,kU,P1,B1⟩:=c1;have qM:gR (gw s) k:=fun p hp=>by rw[kU,P1];exact hn p (by rw[<-P1];exact hp)
 have vf:cN (gw s).y k=[]:=(s1.cont.rp (by rw[B1];exact hk)).2 qM;have si:=Rc (gw s).y k;have s2:cK (gw s) c (sD (gw s) k) c:=cK.Br s1.cont si (KO _) rfl rfl rfl rfl (by show-1<=(gw s).op∧(gw s).op<(gw s).B;rw[o1,B1];exact im) (EP _ _) (s1.cont.vu.free _);have Sv:=E4 (sD (gw s) k).y k;have s3:cK (sD (gw s) k) c (nM s k) c:=cK.Br s2.cont Sv zx rfl rfl rfl rfl (by show-1<=(k:Int)∧(k:Int)<(gw s).B;rw[B1];omega) (yx _ _) (s2.cont.vu.Jz _);refine⟨(s1.trans s2).trans s3,⟨hL.on,?_,?_⟩,rfl⟩
 ·intro j xj zj h1 h2 h3;have qE:k=j:=by have:(k:Int)=j:=h3;omega
  subst qE;rw[hx]at h1;injection h1 with h1;subst h1;obtain⟨z0,LI,_,_⟩:=hC.Gh hk;have a1:=y1 k z0 LI;have a2:=si k;rw[if_pos rfl,a1,kt]at a2;have a3:(nM s k).y[k]?=_:=Sv k;rw[if_pos rfl]at a3;have a2':(sD (gw s) k).y[k]?=_:=a2;rw[a2',kt]at a3;rw[a3]at h2;injection h2 with h2;subst h2;have bD:(if s.op=(k:Int)then rO 2 3 z0 else z0).state=1∨(if s.op=(k:Int)then rO 2 3 z0 else z0).state=3:=by
   by_cases e:s.op=(k:Int)
   ·rw[if_pos e];have:=hL.LR k x z0 hx LI e;unfold rO;rw[if_pos this];exact aE rfl
   ·rw[if_neg e];exact hL.Av k x z0 hx LI e hm
  generalize(if s.op=(k:Int)then rO 2 3 z0 else z0)=z1 at bD⊢;have tM:(BR (cN (gw s).y k≠[]) z1).state=1:=by
   unfold BR;rcases bD with e|e
   ·rw[if_pos (aQ ⟨by omega,by omega⟩)];exact e
   ·rw[if_neg];rintro(⟨_,h⟩|h)
    ·exact h e
    ·exact h vf
  unfold BQ;rw[if_pos tM];exact⟨rfl,h0.symm,hm⟩
 ·intro j xj zj h1 h2 h3 h4;have qE:k≠j:=fun e=>h3 (by rw[<-e];rfl);have a3:(nM s k).y[j]?=_:=Sv j;rw[if_neg qE]at a3;have a2:(sD (gw s) k).y[j]?=_:=si j;rw[if_neg qE]at a2;rw[a3,a2]at h2;have hj:j<s.B:=by rw[<-hC.B];exact(List.getElem?_eq_some_iff.1 h1).1
  obtain⟨z0,LI,_,_⟩:=hC.Gh hj;rw[y1 j z0 LI]at h2;injection h2 with h2;subst h2;by_cases e:s.op=(j:Int)
  ·rw[if_pos e];have:=hL.LR j xj z0 h1 LI e;unfold rO;rw[if_pos this];exact aE rfl
  ·rw[if_neg e];exact hL.Av j xj z0 h1 LI e h4
theorem Live.XV(h:Live s c)(fi:c'.on=true){k:Nat}{x x':CB}(hx:c.blocks[k]?=some x)(hb:c'.blocks=c.blocks.set k x')(hm:x'.mark=x.mark)(hn:s.op=(k:Int)->x'.next=x.next):Live s c':=by
 have hi:=(List.getElem?_eq_some_iff.1 hx).1;refine⟨fi,?_,?_⟩
 ·intro j xj zj h1 h2 h3;rw[hb,dx _ _ _ _ hi]at h1;by_cases e:k=j
  ·subst e;rw[if_pos rfl]at h1;injection h1 with h1;rw[<-h1,hm,hn h3];exact h.LR k x zj hx h2 h3
  ·rw[if_neg e]at h1;exact h.LR j xj zj h1 h2 h3
 ·intro j xj zj h1 h2 h3 h4;rw[hb,dx _ _ _ _ hi]at h1;by_cases e:k=j
  ·subst e;rw[if_pos rfl]at h1;injection h1 with h1;rw[<-h1,hm]at h4;exact h.Av k x zj hx h2 h3 h4
  ·rw[if_neg e]at h1;exact h.Av j xj zj h1 h2 h3 h4
theorem mL{k:Nat}{x:CB}(hx:c.blocks[k]?=some x):c.bu (k:Int)=x.next:=by unfold CM.bu;rw[qW,hx]
theorem AF{k:Nat}{x:CB}(hx:c.blocks[k]?=some x):c.eZ (k:Int)=x.mark:=by unfold CM.eZ;rw[qW,hx]
def aaj(s:SM)(c:CM)(r:SM×CM×Int):Prop:=
 cK s c r.1 r.2.1∧((r.2.2=0∧Live r.1 r.2.1∧∃(k:Nat) (x:CB),k<s.B∧r.1.op=k∧r.2.1.blocks[k]?=some x∧x.next=0)∨(r.2.2=7∧Live r.1 r.2.1)∨(r.2.2=4∧r.2.1.on=false∧∃m∈c.ms,m.kind=2))
theorem GA{k:Int}(h:c.mi.kind=k)(hk:k≠0):∃m∈c.ms,m.kind=k:=by
 unfold CM.mi zS at h;cases e:List.find? (fun m=>decide (m.at_=c.ops+1)) c.ms with
 |none=>rw[e]at h;exact absurd h.symm hk
 |some m=>rw[e]at h;exact⟨m,List.mem_of_find?_eq_some e,h⟩
def anA(s:SM)(c:CM)(v:Int):Prop:=∃(k:Nat) (x:CB),v=k∧c.blocks[k]?=some x∧x.mark=false∧gR s k
theorem M7(L:List Int):∀(s:SM) (c:CM),aV s c->Live s c->L.Nodup->(∀v∈L,anA s c v)->aaj s c (k7 L s c):=by
 induction L with
 |nil=>intro s c hC hL _ _;exact⟨cK.refl hC,aE (aQ ⟨rfl,hL⟩)⟩
 |cons v L ih=>
  intro s c hC hL vf oX;obtain⟨k,x,rfl,hx,hm,hn⟩:=oX v dC;rw[List.nodup_cons]at vf;have hk:k<s.B:=by rw[<-hC.B];exact(List.getElem?_eq_some_iff.1 hx).1
  have hi:=(List.getElem?_eq_some_iff.1 hx).1;rw[k7];by_cases Dr:0<c.bu k
  ·rw[if_pos Dr];obtain⟨x',hb,uy,bD,_,mM⟩:=CL hC hL hx hm hn;have qN:(bT c k).1.blocks[k]?=some x':=by rw[hb,dx _ _ _ _ hi,if_pos rfl]
   rcases mM with⟨h1,h2,h3,h4,_⟩|⟨h1,h2,h3⟩|⟨h1,h2,h3,h4⟩
   ·rw[if_neg (by omega),if_neg (by omega)];obtain⟨o1,o2,o3⟩:=open_spec bD.cont (hL.to0.XV h2 hx hb (uy.trans hm.symm)) qN uy hn h3;exact⟨bD.trans o1,aQ ⟨rfl,o2,k,x',hk,o3,qN,h3⟩⟩
   ·rw[if_neg (by omega),if_pos (by omega)];exact⟨bD,aE (aE ⟨h1,h2,GA h3 (by decide)⟩)⟩
   ·rw[if_pos h1];have WH:Live s (bT c k).1:=hL.XV h2 hx hb (uy.trans hm.symm) (fun _=>by rw[h3]);obtain⟨g1,g2,g3,g4⟩:=E7 bD.cont WH qN;rcases g4 with⟨q1,q2,q3,q4⟩|⟨q1,q2,q3⟩
    ·rw[if_neg (by omega)];have eB:=bD.trans g1;have anB:=ih _ _ eB.cont q2 vf.2 (fun v hv=>by
      obtain⟨j,xj,rfl,hj,hmj,hnj⟩:=oX v (fA _ hv);have Xv:j≠k:=fun e=>vf.1 (by rw[<-e];exact hv);refine⟨j,xj,rfl,?_,hmj,?_⟩
      ·rw[g3 j Xv,hb,dx _ _ _ _ hi,if_neg (Ne.symm Xv)];exact hj
      ·intro p hp;rw[eB.hs,eB.P];exact hnj p (by rw[<-eB.P];exact hp))
     obtain⟨r1,r2⟩:=anB;refine⟨eB.trans r1,?_⟩;rw[eB.B,eB.ms]at r2;exact r2
    ·rw[if_pos (by omega)];obtain⟨m,oc,si⟩:=GA q3 (by decide);exact⟨bD.trans g1,aE (aE ⟨q1,q2,m,by rw[<-bD.ms];exact oc,si⟩)⟩
  ·rw[if_neg Dr];have h0:x.next=0:=by rw[mL hx]at Dr;have:=(hC.shape k x hx).2.1;omega
   obtain⟨o1,o2,o3⟩:=open_spec hC hL.to0 hx hm hn h0;exact⟨o1,aQ ⟨rfl,o2,k,x,hk,o3,hx,h0⟩⟩
end
section
variable{s s':SM}{c c':CM}
theorem KQ{key:Int->Int}{xs:List Int}(h:xs.Nodup):(jd key xs).Nodup:=by
 have step:∀(L:List Int) (x:Int),L.Nodup->x∉L->(vG key L x).Nodup:=by
  intro L x hL hx;unfold vG;rw[List.nodup_append];refine⟨hL.filter _,List.nodup_cons.2 ⟨fun h=>hx (List.mem_filter.1 h).1,hL.filter _⟩,?_⟩;intro a ha b hb e;subst e;have h1:=List.mem_filter.1 ha;rcases List.mem_cons.1 hb with h2|h2
  ·subst h2;exact hx h1.1
  ·have h3:=(List.mem_filter.1 h2).2;have h4:=h1.2;simp only[decide_eq_true_eq]at h3 h4;omega
 have gen:∀(xs L:List Int),L.Nodup->xs.Nodup->(∀x∈xs,x∉L)->(xs.foldl (vG key) L).Nodup:=by
  intro xs
  induction xs with
  |nil=>intro L h _ _;exact h
  |cons x xs ih=>
   intro L hL hx hd;rw[List.nodup_cons]at hx;refine ih _ (step L x hL (hd x dC)) hx.2 fun y hy h2=>?_;rcases JU.1 h2 with h3|h3
   ·subst h3;exact hx.1 hy
   ·exact hd y (fA _ hy) h3
 exact gen xs [] List.nodup_nil h (by simp)
theorem Ee(cs:List Bool)(k:Nat):(ga cs k).Nodup:=by
 unfold ga;have h:((List.range k).filter fun i=>cs.getD i false).Nodup:=List.nodup_range.filter _;generalize(List.range k).filter (fun i=>cs.getD i false)=l at h
 induction l with
 |nil=>exact List.nodup_nil
 |cons a t ih=>
  have h2:=List.nodup_cons.1 h;rw[ku,List.nodup_cons];refine⟨fun hm=>?_,ih h2.2⟩;obtain⟨b,hb,e⟩:=List.mem_map.1 hm;exact h2.1 ((show b=a by omega)▸hb)
theorem G7(s:SM)(c:CM):(dR s c).Nodup:=KQ (Ee _ _)
theorem rq(hC:aV s c){v:Int}:v∈dR s c↔∃k:Nat,v=k∧k<s.B∧bq s c k=true:=by
 unfold dR pU;rw[yv,pC];constructor
 ·rintro⟨i,rfl,h1,h2⟩;have h3:i<s.B:=by simpa[dV]using h1
  refine⟨i,rfl,h3,?_⟩;unfold dV at h2;rw[jR,dW,pf h3]at h2;exact h2
 ·rintro⟨i,rfl,h1,h2⟩;refine⟨i,rfl,by simpa[dV]using h1,?_⟩;unfold dV;rw[jR,dW,pf h1];exact h2
theorem fe(hC:aV s c){k:Nat}{x:CB}(hx:c.blocks[k]?=some x):bq s c k=true↔x.mark=false∧gR s k∧(s.op≠(k:Int)∨dK s c=0):=by
 have hk:k<s.B:=by rw[<-hC.B];exact(List.getElem?_eq_some_iff.1 hx).1
 unfold bq;rw[AF hx,<-hC.rp hk];simp only[fW,Bool.not_eq_true',Bool.or_eq_true,decide_eq_true_eq,List.length_eq_zero_iff,ne_eq];rw[show((k:Int)=s.op)=(s.op=(k:Int))from propext ⟨Eq.symm,Eq.symm⟩]
theorem Re(hC:aV s c)(hL:Live s c):aaj s c (je s c):=by
 refine M7 _ s c hC hL (G7 s c) fun v hv=>?_;obtain⟨k,rfl,hk,hb⟩:=(rq hC).1 hv;obtain⟨x,hx⟩:=hC.rY hk;obtain⟨h1,h2,_⟩:=(fe hC hx).1 hb;exact⟨k,x,rfl,hx,h1,h2⟩
def aja(s:SM)(c:CM):Prop:=∃(k:Nat) (x:CB),k<s.B∧s.op=k∧c.blocks[k]?=some x∧x.next<s.P
def adK(s:SM)(c:CM)(r:SM×CM×Int):Prop:=
 cK s c r.1 r.2.1∧((r.2.2=0∧Live r.1 r.2.1∧aja r.1 r.2.1)∨(r.2.2=7∧Live r.1 r.2.1∧dK s c=0)∨(r.2.2=4∧r.2.1.on=false∧∃m∈c.ms,m.kind=2))
theorem left_at(hC:aV s c){k:Nat}{x:CB}(ho:s.op=k)(hx:c.blocks[k]?=some x):dK s c=s.P-x.next:=by
 unfold dK;rw[if_neg (by omega),ho,mL hx]
theorem M8(hC:aV s c)(hL:Live s c):adK s c (eE s c):=by
 unfold eE;by_cases h0:dK s c=0
 ·rw[if_pos h0];obtain⟨h1,h2⟩:=Re hC hL;refine⟨h1,?_⟩;rcases h2 with⟨q1,q2,k,x,q3,q4,q5,q6⟩|⟨q1,q2⟩|h
  ·refine aQ ⟨q1,q2,k,x,by rw[h1.B];exact q3,q4,q5,?_⟩;rw[q6,h1.P];have:=bO hC.pl;omega
  ·exact aE (aQ ⟨q1,q2,h0⟩)
  ·exact aE (aE h)
 ·rw[if_neg h0];refine⟨cK.refl hC,aQ ⟨rfl,hL,?_⟩⟩;have im:=hC.Bc;have ei:s.op≠-1:=fun e=>h0 (by unfold dK;rw[if_pos e]);obtain⟨k,hk⟩:∃k:Nat,s.op=(k:Int):=⟨s.op.toNat,by omega⟩;obtain⟨x,hx⟩:=hC.rY (k:=k) (by omega);refine⟨k,x,by show k<s.B;omega,hk,hx,?_⟩;show x.next<s.P;rw[left_at hC hk hx]at h0;have:=(hC.shape k x hx).2.2.1;omega
theorem E8(hC:aV s c)(hL:Live s c){k:Nat}{x:CB}{raw:List UInt8}{v:List UInt8×Hd}(ho:s.op=k)(hx:c.blocks[k]?=some x)(hn:x.next<s.P)(hl:raw.length=s.Z+28)(DT:fE raw=some v):
  ∃(x':CB) (p:Nat),x.next=p∧p<s.P∧(bX s.y s.op).2.1=p∧(fQ c s.op (bX s.y s.op).2.1 raw).1.blocks=c.blocks.set k x'∧x'.mark=false∧x'.next=x.next+1∧x'.shape s.P s.Z∧x'.df=x.df∧
   (fQ c s.op (bX s.y s.op).2.1 raw).1.P=c.P∧(fQ c s.op (bX s.y s.op).2.1 raw).1.Z=c.Z∧(fQ c s.op (bX s.y s.op).2.1 raw).1.ms=c.ms∧(fQ c s.op (bX s.y s.op).2.1 raw).1.bZ=c.bZ∧
   (fQ c s.op (bX s.y s.op).2.1 raw).1.ops=c.ops+1∧
   (∀q:Nat,q≠p->sd x' q=sd x q)∧
   (((fQ c s.op (bX s.y s.op).2.1 raw).2=0∧(fQ c s.op (bX s.y s.op).2.1 raw).1.on=true∧sd x' p=some v∧x'.failed=false∧x.failed=false∧c.mi.kind≠1∧c.mi.kind≠2)∨
    ((fQ c s.op (bX s.y s.op).2.1 raw).2=4∧(fQ c s.op (bX s.y s.op).2.1 raw).1.on=false∧(sd x' p=none∨sd x' p=some v)∧c.mi.kind=2)∨
    ((fQ c s.op (bX s.y s.op).2.1 raw).2=5∧(fQ c s.op (bX s.y s.op).2.1 raw).1.on=true∧sd x' p=none∧x'.failed=true∧(c.mi.kind=1∨x.failed=true))):=by
 have ik:=bO hC.pl;have hk:k<s.B:=by rw[<-hC.B];exact(List.getElem?_eq_some_iff.1 hx).1
 obtain⟨z,hz,Dm,LI⟩:=hC.Gh hk;obtain⟨o1,o2,o3⟩:=hL.LR k x z hx hz ho;have Ax:=hC.shape k x hx;obtain⟨p,hp⟩:∃p:Nat,x.next=(p:Int):=⟨x.next.toNat,by have:=Ax.2.1;omega⟩;have LG:p<s.P:=by omega
 have hy:(bX s.y s.op).2.1=(p:Int):=by
  unfold bX;rw[ho,lM,hz];dsimp only;rw[if_neg (by simp[o1]),if_neg (by omega)];exact o2.trans hp
 have adL:x.ad[p]?=some (jw s.Z):=Ax.2.2.2 p (by omega) LG;have nj:x.ad.getD p []=jw s.Z:=by rw[jR,adL];rfl
 have e0:fQ c s.op (p:Int) raw=px {c with ops:=c.ops+1} c.mi k x p raw:=by
  unfold fQ;rw[ho,qW,hx];show c.prog (k:Int).toNat x p raw=_;rw[Int.toNat_natCast];unfold CM.prog;rw[show decide (0<=(p:Int)∧(p:Int)<=(c.P:Int)-1)=true from decide_eq_true ⟨by omega,by rw[hC.P];omega⟩,Gz hL.on];dsimp only;rw[if_neg (by simp),if_neg (by simp[o3,hp])];rw[Int.toNat_natCast]
 rw[hy,e0];have rX:∀m:Nat,(x.put p raw m).shape s.P s.Z∧(∀q:Nat,q≠p->sd (x.put p raw m) q=sd x q)∧(x.put p raw m).next=x.next+1∧(x.put p raw m).mark=false∧(x.put p raw m).df=x.df∧(x.put p raw m).failed=x.failed∧
   (m<s.Z+28->sd (x.put p raw m) p=none)∧(s.Z+28<=m->sd (x.put p raw m) p=some v):=by
  intro m;have vF:p<x.ad.length:=by rw[Ax.1];exact LG
  refine⟨⟨?_,?_,?_,?_⟩,?_,rfl,o3,rfl,rfl,?_,?_⟩
  ·show(x.ad.set p _).length=_;rw[k5];exact Ax.1
  ·show 0<=x.next+1;have:=Ax.2.1;omega
  ·show x.next+1<=s.P;omega
  ·intro q h1 h2;have DH:x.next+1<=q:=h1;show(x.ad.set p _)[q]?=_;rw[dx _ _ _ _ vF,if_neg (by omega)];exact Ax.2.2.2 q (by omega) h2
  ·intro q hq;unfold sd;show((x.ad.set p _)[q]?).bind fE=_;rw[dx _ _ _ _ vF,if_neg (Ne.symm hq)]
  ·intro hm;unfold sd;show((x.ad.set p _)[p]?).bind fE=_;rw[dx _ _ _ _ vF,if_pos rfl,Option.bind_some];exact M6 hl nj hm
  ·intro hm;unfold sd;show((x.ad.set p _)[p]?).bind fE=_;rw[dx _ _ _ _ vF,if_pos rfl,Option.bind_some,nj];rw[gU (by omega),BN (by unfold jw;rw[gV];omega),kZ];exact DT
 unfold px;by_cases k2:c.mi.kind=2
 ·rw[if_pos k2];obtain⟨a1,a2,a3,a4,a5,a6,a7,a8⟩:=rX (ic c.mi x raw.length);refine⟨_,p,hp,LG,rfl,rfl,a4,a3,a1,a5,rfl,rfl,rfl,rfl,rfl,a2,aE (aQ ⟨rfl,rfl,?_,k2⟩)⟩;by_cases hm:ic c.mi x raw.length<s.Z+28
  ·exact aQ (a7 hm)
  ·exact aE (a8 (by omega))
 ·rw[if_neg k2];by_cases k1:c.mi.kind=1∨x.failed=true
  ·rw[if_pos k1];obtain⟨a1,a2,a3,a4,a5,a6,a7,a8⟩:=rX (ic c.mi x raw.length);refine⟨{x.put p raw (ic c.mi x raw.length)with failed:=true},p,hp,LG,rfl,rfl,a4,a3,a1,a5,rfl,rfl,rfl,rfl,rfl,a2,aE (aE ⟨rfl,hL.on,a7 ?_,rfl,k1⟩)⟩;unfold ic;split
   ·omega
   ·next hf=>
    rcases k1 with h|h
    ·rw[if_pos h,hl];omega
    ·exact absurd h hf
  ·rw[if_neg k1];have k1a:c.mi.kind≠1:=fun e=>k1 (aQ e);have k1b:x.failed=false:=by cases hf:x.failed with|false=>rfl|true=>exact absurd (aE hf) k1
   have S6:ic c.mi x raw.length=s.Z+28:=by unfold ic;rw[k1b,if_neg (by simp),if_neg k1a,if_neg k2,hl]
   obtain⟨a1,a2,a3,a4,a5,a6,a7,a8⟩:=rX (ic c.mi x raw.length);exact⟨_,p,hp,LG,rfl,rfl,a4,a3,a1,a5,rfl,rfl,rfl,rfl,rfl,a2,aQ ⟨rfl,hL.on,a8 (by omega),a6.trans k1b,k1b,k1a,k2⟩⟩
end
def Jb:CM:=CM.new 16 4 128 [] []
def Jc:SM:=SM.fresh 16 4 128
theorem awN:bW Jb=(Jc,Jb,0):=M5 (c:=CM.new 16 4 128 [] []) fun k=>⟨J4 16 4 128 [] [] k,Q8 16 4 128 [] k⟩
theorem Cf(Fr:HL):ME (.slice none 0 0) [] Fr:=fun w _=>⟨rfl,none,0,rfl,aN _,by simp[maxLen],fun h=>absurd h (by simp)⟩
theorem adM(Fr:HL):F9 Fr (.slice none 0 0) []:=fun w _=>⟨rfl,none,0,rfl,aN _,by simp[maxLen],fun h=>absurd h (by simp)⟩
theorem oN(w:World)(Fr:HL)(hH:Holds w Fr):Calls Tryz.prog 10 #[.agg #[.int .i64 16,.int .i64 4,.int .i64 128],.slice none 0 0,.slice none 0 0] w (cB (fun v H=>MB v Jb H) w Fr):=
 yG 16 4 128 (.slice none 0 0) (.slice none 0 0) [] [] w Fr hH (Cf Fr) (adM Fr) (fun wx F hx=>(Vs wx).mono fun e w' ⟨h1,h2⟩=>⟨h1,h2▸hx,h2▸af.refl wx⟩) (by omega) (by omega) (by omega) (by omega) (by omega) (by omega) (by simp) (by simp) (by simp)
theorem YR:lH (Jb.blocks.length:Int) Jb.P Jb.Z=true:=by kernel_rfl
end Go.Proofs.YtalnifciidblkaaGreatDoor
