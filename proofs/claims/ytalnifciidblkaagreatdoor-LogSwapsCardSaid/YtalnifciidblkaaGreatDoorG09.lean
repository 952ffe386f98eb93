/-
  Lemmas.
-/
import Derived.Test.YtalnifciidblkaaGreatDoorG33
namespace Go.Proofs.YtalnifciidblkaaGreatDoor
open _root_.Go.Proofs.Tryz
open Go.RowKit
set_option linter.unusedSimpArgs false
set_option linter.unusedVariables false
set_option maxRecDepth 20000
set_option maxHeartbeats 8000000
section
variable{b g cap:Nat}{mv:Value}{c:CM}{H Fr:HL}{w:World}
theorem KF(k:Nat)(x:CB)(h:ai b g cap mv c H)(hH:Holds w (H++Fr))(fI:c.ops<1000000000000)(hx:c.blocks[k]?=some x):
  Calls Tryz.prog 136 #[.pointer (some ⟨b,0,none⟩),.int .i64 (k:Int)] w (BV b g cap mv (c.erase k x) w Fr):=by
 have FM:c.there (k:Int)=true:=by have:=(List.getElem?_eq_some_iff.1 hx).1;unfold CM.there;exact decide_eq_true (by omega)
 have HT:=aa (kQ (w:=w) (k:Int) h hH);rw[FM]at HT;clear FM;have Tb:=aa (CM.Z7 h.o7);have rH:=h.o7.1;have Zg:=h.o7.2.1;have hZ:=h.o7.2.2.2.1;have h32:=h.o7.2.2.2.2.2.1;have TS:=h.o7.2.2.2.2.2.2.2.2.2.2.1;have og:=h.Bl;unfold maxLen at og;have Tc:=rm (w:=w) true h hH (by omega);have cm:c.erase k x=if(c.jE true).2.2≠0 then((c.jE true).1,(c.jE true).2.2)else if x.mark=true then(c.jE true).1.ord (c.jE true).2.1 false else kC (c.jE true).1 (c.jE true).2.1 k x:=rfl;have k1:=cS;have k2:=cC;have HX:=aa hx;have Ai:=yp c true;obtain⟨⟨c9,⟨ma,mk,mb,mf⟩,ec⟩,u9⟩:∃r,r=c.jE true:=⟨_,rfl⟩;rw[<-u9]at Ai cm Tc;simp only at Ai cm;have IJ:=aa Ai;have HB9:=aa Tc;have jo:=aa cm;have hwx:x.df<=c.ops:=(h.o7.2.2.2.2.2.2.2.2.2.2.2.2.2 x (gD hx)).2.2.2.2.2;have auB:0<=x.df:=(h.o7.2.2.2.2.2.2.2.2.2.2.2.2.2 x (gD hx)).2.2.2.2.1;clear h hx cm Ai Tc u9;go_enter func136,ntmps136;go_wp2_with fail
 refine HT.o.mono ?_;rintro e wx⟨rfl,rfl⟩;clear HT;go_wp2_with fail
 refine HB9.o.mono ?_;rintro e w1⟨ve,H1,He,G,rfl,he,ff,ax,aK⟩;simp only[Mi.agg,bh]at he ff ax⊢;have sc:=aa ff;have Ir:=aa (ax.alloc (.cells #[.int .i64 ma,.int .i64 mk,.int .i64 mb,.int .u8 (mf.toNat:Int)] 87));have cJ:=aK.alloc (.cells #[.int .i64 ma,.int .i64 mk,.int .i64 mb,.int .u8 (mf.toNat:Int)] 87);clear ff;by_cases pc:ec=0;rotate_left
 ·obtain⟨b9,s9,rfl,_⟩:=cI he pc;have gO:=aa (show c.erase k x=(c9,ec) by rw[jo.o,if_pos pc]);have HE:=aa he;clear he jo pc ax;go_wp2_with fail
  go_ret;rw[gO.o];exact⟨G++[(w1.heap.size,.cells #[.int .i64 ma,.int .i64 mk,.int .i64 mb,.int .u8 (mf.toNat:Int)] 87)],_,H1,He,rfl,HE.o,sc.o,Ir.o.p,cJ⟩
 subst pc;obtain⟨rfl,rfl⟩:=de he;obtain⟨h9,_,fi⟩:(c9,(⟨ma,mk,mb,mf⟩:Mi),(0:Int))=({c with ops:=c.ops+1},c.mi,0)∧True∧c.on=true:=by
  rcases IJ.o with⟨h1,_⟩|⟨h1,_,h3⟩
  ·exact absurd rfl h1
  ·exact⟨h1,trivial,h3⟩
 injection h9 with h9 Td;injection Td with Td _;have Sv:mk=0∨mk=1∨mk=2:=by have:=Tb.o.1;rw[<-Td]at this;exact this
 have Lk:=aa (show c9.blocks[k]?=some x by rw[h9];exact HX.o);have Zj:c9.Z=c.Z:=by rw[h9]
 have Xc:c9.P=c.P:=by rw[h9]
 have hO9:c9.ops=c.ops+1:=by rw[h9]
 have hM9:c9.bZ=c.bZ:=by rw[h9]
 have dZ:Holds (w1.alloc (.cells #[.int .i64 ma,.int .i64 mk,.int .i64 mb,.int .u8 (mf.toNat:Int)] 87)) (H1++(G++((w1.heap.size,.cells #[.int .i64 ma,.int .i64 mk,.int .i64 mb,.int .u8 (mf.toNat:Int)] 87)::Fr))):=Ir.o.p;have d3:=(sc.o.gX dZ).2.2.2.1;have Gb:c9.blocks.length=c.blocks.length:=by rw[h9]
 rw[Gb]at d3;have Dn:k<c.blocks.length:=(List.getElem?_eq_some_iff.1 HX.o).1;obtain⟨z0,z1,z2,z3,_⟩:=Ir.o.hJ;obtain⟨cR,eR,agN,hRx,hRe⟩:∃c' e',c9.ord ⟨ma,mk,mb,mf⟩ (!x.mark)=(c',e')∧c'.blocks[k]?=some x∧((x.mark=true∧e'≠0∧c.erase k x=(c',e'))∨(x.mark=false∧(c',e')=(c9,0)∧c.erase k x=kC c9 ⟨ma,mk,mb,mf⟩ k x)):=by
  rw[jo.o,if_neg (by simp)];unfold CM.ord;cases x.mark
  ·exact⟨_,_,rfl,Lk.o,.inr ⟨rfl,rfl,rfl⟩⟩
  ·rw[if_neg (by decide),if_pos rfl];split<;>exact⟨_,_,rfl,Lk.o,.inl ⟨rfl,by simp,rfl⟩⟩
 have It:=aa agN;have Zo:=aa hRx;have Wx:=aa hRe;clear he Ir ax h9 Td fi jo agN hRx hRe;go_upto_region 5 with fail
 generalize w1.alloc (.cells #[.int .i64 ma,.int .i64 mk,.int .i64 mb,.int .u8 (mf.toNat:Int)] 87)=wA at*;generalize w1.heap.size=t at*;have HS:=aa (fun(wx:World) (cx:CM) (Hx F:HL) (hcx:ai b g cap mv cx Hx) (PH:cx.blocks[k]?=some x) (hx:Holds wx (Hx++F)) (hm:(t,Obj.cells #[.int .i64 ma,.int .i64 mk,.int .i64 mb,.int .u8 (mf.toNat:Int)] 87)∈F)=>
  show wx.cell? ⟨t,0,none⟩=some (.int .i64 ma)∧wx.cell? ⟨t,1,none⟩=some (.int .i64 mk)∧wx.cell? ⟨t,2,none⟩=some (.int .i64 mb)∧wx.cell? ⟨t,3,none⟩=some (.int .u8 (mf.toNat:Int))∧wx.cell? ⟨g,k*5+4,none⟩=some (.bool x.mark)from by
   obtain⟨pv,hB⟩:=hcx.open_ PH;obtain⟨_,d1,_,_,d4,_⟩:=hB.cells wx F hx;exact⟨hx.cell (gr _ hm) 0,hx.cell (gr _ hm) 1,hx.cell (gr _ hm) 2,hx.cell (gr _ hm) 3,d4⟩)
 clear z0 z1 z2 z3;refine aF (fun wx=>wx.cell? ⟨t,0,none⟩=some (.int .i64 ma)∧wx.cell? ⟨t,1,none⟩=some (.int .i64 mk)∧wx.cell? ⟨t,2,none⟩=some (.int .i64 mb)∧wx.cell? ⟨t,3,none⟩=some (.int .u8 (mf.toNat:Int))∧wx.cell? ⟨g,k*5+4,none⟩=some (.bool x.mark)) 9 (by kernel_rfl) (fun w1 hd=>HS.o _ c9 H1 _ sc.o Lk.o (dZ.dr hd) (by simp)) (fun w1 hd hs=>?_);have aD:=dZ.dr hd;have cf:=cJ.trans (af.dr hd);clear hd dZ cJ;refine dY 0 1 2 3 ?_;refine Ag 4 5 6 ?_;refine Zm 7 fun K hK=>?_;go_simp;refine(rD ma mk mb mf (!x.mark) sc.o aD (by rw[hO9];omega) (fun _=>by rw[hO9,hM9];omega)).mono ?_;rintro e w4 ⟨G4,Te,H4,AU,rfl,j9,vc,aU,bV⟩;rw[It.o]at j9 vc;refine hK _ _ (HS.o _ _ H4 _ vc (by exact Zo.o) aU (by simp)) (fun _=>?_);clear hK K hs;rename_i hs;refine ji 8 ?_;refine Ze ?_;rcases Wx.o with⟨_,ei,cm⟩|⟨_,AV,cm⟩
 ·obtain⟨b9,s9,rfl,_⟩:=cI j9 ei;have LF:=aa j9;have Aj:=aa vc;have gO:=aa cm;clear j9 vc cm ei;go_wp2_with fail
  go_ret;rw[gO.o];exact⟨G4++(G++[(t,.cells #[.int .i64 ma,.int .i64 mk,.int .i64 mb,.int .u8 (mf.toNat:Int)] 87)]),_,H4,AU,rfl,LF.o,Aj.o,aU.p,cf.trans bV⟩
 injection AV with xu p5;subst xu p5;obtain⟨rfl,rfl⟩:=de j9;have Aj:=aa vc;obtain⟨xf,hxf⟩:∃xf,xf=x.failed:=⟨_,rfl⟩;have gO:=aa (show c.erase k x=if mk=2 then(if xf=true then({cR with on:=false},4)else({cR.db k {x with ad:=List.replicate c.P (List.replicate (c.Z+28) mf),next:=if mf=255 then 0 else(c.P:Int),df:=x.df+1}with on:=false},4))
  else if mk=1∨xf=true then(cR.db k {x with failed:=true},5)else(cR.db k {x with ad:=gQ c.P c.Z,next:=0,df:=x.df+1},0) by rw[cm,hxf];unfold kC;rw[Xc,Zj])
 clear j9 vc cm Wx It Zo HS IJ Tb;have zL:Holds w4 (H4++(G4++(G++((t,.cells #[.int .i64 ma,.int .i64 mk,.int .i64 mb,.int .u8 (mf.toNat:Int)] 87)::Fr)))):=aU.p;have LA:=cf.trans bV;have z1:w4.cell? ⟨t,1,none⟩=some (.int .i64 mk):=zL.cell (b:=t) (cs:=#[.int .i64 ma,.int .i64 mk,.int .i64 mb,.int .u8 (mf.toNat:Int)]) (t:=87) (fz:=(0,0)) (by simp) 1;have HMF:=aa (fun(wx:World) (F:HL) (hx:Holds wx F) (hm:(t,Obj.cells #[.int .i64 ma,.int .i64 mk,.int .i64 mb,.int .u8 (mf.toNat:Int)] 87)∈F)=>show wx.cell? ⟨t,3,none⟩=some (.int .u8 (mf.toNat:Int))from hx.cell hm 3);generalize(Obj.cells #[.int .i64 ma,.int .i64 mk,.int .i64 mb,.int .u8 (mf.toNat:Int)] 87)=ob at*;obtain⟨pv,hB⟩:=Aj.o.open_ Lk.o;obtain⟨_,_,e2',d5,_,_,_,f2',f3',_⟩:=hB.cells w4 _ zL;have hk9:k<cR.blocks.length:=(List.getElem?_eq_some_iff.1 Lk.o).1;have DI:x.df+1<=1000000000000:=by omega
 rw[<-hxf]at d5;clear aU cf bV d3 hxf;have mM:(mk=2∧xf=true)∨((xf=true∧mk=0)∨(xf=true∧mk=1)∨xf=false∧mk=1)∨(mk=0∧xf=false)∨(mk=2∧xf=false):=by
  clear gO d5;cases xf<;>simp<;>omega
 clear Sv;rcases mM with⟨rfl,rfl⟩|mM|⟨rfl,rfl⟩|⟨rfl,rfl⟩
 ·have HDK:=aa (nX Aj.o zL);have Bn:=aa (show c.erase k x=({cR with on:=false},4) by rw[gO.o,if_pos rfl,if_pos rfl]);clear hB;go_wp2_with fail
  refine HDK.o.mono ?_;rintro e w9⟨ve9,H9,Is,rfl,p5,xu,di,jG⟩;have Tg:=aa p5;have Dq:=aa xu;clear p5 xu;go_wp2_with fail
  go_ret;rw[Bn.o];exact⟨G4++(G++[(t,ob)]),_,H9,Is,rfl,Tg.o,Dq.o,di.p,LA.trans jG⟩
 ·obtain⟨H9,xu,di⟩:=hB.agJ _ _ true zL;have Dq:=aa xu;have IM:=aa (LA.setCell ⟨g,k*5+3,none⟩ (.bool true));have HWR:=aa (kP 5 _ _ (by omega) di);have Bn:=aa (show c.erase k x=(cR.db k {x with failed:=true},5) by rw[gO.o,if_neg (by omega),if_pos (by rcases mM with h|h|h<;>simp[h])]);clear hB xu di LA zL;rcases mM with⟨rfl,rfl⟩|⟨rfl,rfl⟩|⟨rfl,rfl⟩;all_goals
   go_wp2_with fail
   refine HWR.o.mono ?_;rintro e w9⟨ve9,Is,rfl,p5,di,jG⟩;have Tg:=aa p5;clear p5;go_wp2_with fail
   go_ret;rw[Bn.o];exact⟨G4++(G++[(t,ob)]),_,H9,Is,rfl,Tg.o,Dq.o,di.p,IM.o.trans jG⟩
 ·have Bn:=aa (show c.erase k x=(cR.db k {x with ad:=gQ c.P c.Z,next:=0,df:=x.df+1},0) by rw[gO.o,if_neg (by decide),if_neg (by decide)]);have HEM:=aa (CA b c.P c.Z w4 _ zL (fun wx hx=>by have:=Aj.o.gX hx;rw[Xc,Zj]at this;exact⟨this.2.1,this.2.2.1⟩) rH Zg hZ);clear hB;go_wp2_with fail
  refine HEM.o.mono ?_;rintro e w5⟨v5,H5,rfl,zM,bg,dJ⟩;obtain⟨A5,q5,rfl,_,_⟩:=zM.val;have abX:(gQ c.P c.Z).length=c.P:=by simp[gQ]
  rw[abX]at zM⊢;obtain⟨pv5,hB5⟩:=Aj.o.open_ Lk.o;obtain⟨e0',_,_,_,_,f0',_⟩:=hB5.cells w5 _ bg.swap;obtain⟨H6,Iu,bC⟩:=hB5.am3 w5 _ (.slice A5 c.P q5) (gQ c.P c.Z) H5 bg.swap zM (by rw[abX,Xc]) (fun p hp=>by rw[ow hp,Zj];simp[jw]);have jn:=(LA.trans dJ).setCell ⟨g,k*5,none⟩ (.slice A5 c.P q5);obtain⟨pv6,hB6⟩:=Iu.open_ (k:=k) (x:={x with ad:=gQ c.P c.Z}) (by simp[CM.db,hk9]);obtain⟨_,e1',_,_,_,_,f1',_⟩:=hB6.cells _ _ bC;obtain⟨H7,hc7,cA⟩:=hB6.XL _ _ 0 bC (bG _) (by show(0:Int)<=(cR.P:Int);omega);have fx:=jn.setCell ⟨g,k*5+1,none⟩ (.int .i64 0);obtain⟨pv7,hB7⟩:=hc7.open_ (k:=k) (x:={x with ad:=gQ c.P c.Z,next:=0}) (by simp[CM.db,hk9]);obtain⟨_,_,g2',_,_,_,_,auC,_⟩:=hB7.cells _ _ cA;obtain⟨H8,IL,cT⟩:=hB7.agI _ _ (x.df+1) cA (by omega) (by show x.df+1<=cR.ops;omega);simp only[CM.db,List.set_set]at IL;have HC8:=aa (show ai b g cap mv (cR.db k {x with ad:=gQ c.P c.Z,next:=0,df:=x.df+1}) H8 from IL);have IP:=aa cT;have HG8:=aa (fx.setCell ⟨g,k*5+2,none⟩ (.int .i64 (x.df+1)));clear Iu hc7 IL cT cA bC bg hB5 hB6 hB7 zM zL LA dJ jn fx HEM z1 d5 abX;go_wp2_with fail
  go_ret;rw[Bn.o];exact⟨G4++(G++[(t,ob)]),.nilIface,H8,[],rfl,bJ.none,HC8.o,IP.o.p,HG8.o⟩
 obtain⟨nx,Dr⟩:∃nx,nx=(if mf=255 then 0 else(c.P:Int)):=⟨_,rfl⟩;have Bn:=aa (show c.erase k x=({cR.db k {x with ad:=List.replicate c.P (List.replicate (c.Z+28) mf),next:=nx,df:=x.df+1}with on:=false},4) by rw[gO.o,if_pos rfl,if_neg (by decide),Dr]);clear gO;have y3a:=HMF.o _ _ zL (by simp);obtain⟨H5,hc5,bg⟩:=hB.agI _ _ (x.df+1) zL (by omega) (by show x.df+1<=cR.ops;omega);have eY:=LA.setCell ⟨g,k*5+2,none⟩ (.int .i64 (x.df+1));obtain⟨pv5,hB5⟩:=hc5.open_ (k:=k) (x:={x with df:=x.df+1}) (by simp[CM.db,hk9]);have f15:=(hB5.cells _ _ bg).2.2.2.2.2.2.1;have hy1:(w4.setCell ⟨g,k*5+2,none⟩ (.int .i64 (x.df+1))).cell? ⟨b,1,none⟩=some (.int .i64 (c.P:Int)):=by have:=(hc5.gX bg).2.1;simp only[CM.db]at this;rw[Xc]at this;exact this
 obtain⟨H6,Iu,bC⟩:=hB5.XL _ _ (c.P:Int) bg (by omega) (by show(c.P:Int)<=(cR.P:Int);omega);simp only[CM.db,List.set_set]at Iu;have abY:ai b g cap mv (cR.db k {x with df:=x.df+1,next:=(c.P:Int)}) H6:=Iu;have jn:=eY.setCell ⟨g,k*5+1,none⟩ (.int .i64 (c.P:Int));obtain⟨pv6,hB6⟩:=abY.open_ (k:=k) (x:={x with df:=x.df+1,next:=(c.P:Int)}) (by simp[CM.db,hk9]);have f16:=(hB6.cells _ _ bC).2.2.2.2.2.2.1;obtain⟨H7,hc7,cA⟩:=hB6.XL _ _ 0 bC (bG _) (by show(0:Int)<=(cR.P:Int);omega);simp only[CM.db,List.set_set]at hc7;have agO:ai b g cap mv (cR.db k {x with df:=x.df+1,next:=0}) H7:=hc7;have fx:=jn.setCell ⟨g,k*5+1,none⟩ (.int .i64 0);have y3:=HMF.o _ _ bC (by simp);obtain⟨wN,hwN⟩:∃wN,wN=(if mf=255 then((w4.setCell ⟨g,k*5+2,none⟩ (.int .i64 (x.df+1))).setCell ⟨g,k*5+1,none⟩ (.int .i64 (c.P:Int))).setCell ⟨g,k*5+1,none⟩ (.int .i64 0)else(w4.setCell ⟨g,k*5+2,none⟩ (.int .i64 (x.df+1))).setCell ⟨g,k*5+1,none⟩ (.int .i64 (c.P:Int))):=⟨_,rfl⟩;obtain⟨HN,hcN,ur,AW,hNX⟩:∃HN,ai b g cap mv (cR.db k {x with df:=x.df+1,next:=nx}) HN∧Holds wN (HN++(G4++(G++((t,ob)::Fr))))∧af w wN∧True:=by
  rw[Dr,hwN];split
  ·exact⟨H7,agO,cA,fx,trivial⟩
  ·exact⟨H6,abY,bC,jn,trivial⟩
 have HWN:=aa hwN;obtain⟨pv8,Zn⟩:=hcN.open_ (k:=k) (x:={x with df:=x.df+1,next:=nx}) (by simp[CM.db,hk9]);have d8:=(Zn.cells _ _ ur).1;obtain⟨Hp,Hr,xN,im,rX⟩:=Zn.ad;have ik:x.ad.length=c.P:=by have h2:x.ad.length=cR.P:=Zn.ok.1;rw[h2,Xc]
 have hpz:∀p∈x.ad,p.length=c.Z+28:=by have h2:∀p∈x.ad,p.length=cR.Z+28:=Zn.ok.2.1;rw[Zj]at h2;exact h2
 have cT:=im _ _ ur;obtain⟨Ap,cp,rfl,am7,am8⟩:=xN.val;have UH:iw (.slice Ap x.ad.length cp) x.ad Hp:=xN;obtain⟨_,gp,rfl,_⟩:=UH.am1 (by omega);have ko:=aa rX;have HPZ:=aa hpz;have od:=aa ik;have AX:=aa AW;have IP:=aa cT;have am9:=aa UH;have d8':=d8;simp only[ik]at d8';unfold maxLen at am8;rw[ik]at am7;clear d8 hcN Zn im rX hpz ik xN UH cT cA fx abY bC jn agO hc5 bg eY hB5 Iu hB6 hc7 zL LA hB Dr AW ur hwN;by_cases hff:mf=255;all_goals
  have hwN:=HWN.o;first|rw[if_pos hff]at hwN|rw[if_neg hff]at hwN
  clear HWN;subst hwN;have Wy:((mf.toNat:Int)==255)=decide (mf=255):=by
   by_cases h:mf=255
   ·subst h;rfl
   ·simp[h];intro h2;exact h (UInt8.toNat.inj (by simpa using(show mf.toNat=255 by omega)))
  first|rw[decide_eq_true hff]at Wy|rw[decide_eq_false hff]at Wy
  clear hff;go_wp2_with fail
  go_loopw [10,81] (fun _ iv wr=>YF (.slice (some ⟨gp,0,none⟩) x.ad.length cp) x.ad (c.Z+28) mf w (Hr++(G4++(G++((t,ob)::Fr)))) iv wr) (fun _ iv _=>x.ad.length-(intOf iv).toNat)
  case atStart=>exact⟨0,Hp,[],by omega,rfl,by unfold mw;simpa using am9.o,by simpa using IP.o,AX.o⟩
  case round=>
   obtain⟨j,Hq,F2,hj,rfl,hbq,eh,gf⟩:=hrel;by_cases aG:j<x.ad.length
   ·have hft:=D9 (n:=c.Z+28) (u:=mf) hj;have hfg:=MQ (n:=c.Z+28) (u:=mf) aG (by omega);obtain⟨gp',cp',A,q,hv,hq,Dk,hPc,hZq,cg,rN⟩:=hbq.ads (i:=j) (n:=c.Z+28) (by omega) (by rw[hfg];exact HPZ.o _ (cX aG)) (by omega);injection hv with hv _ hvc;injection hv with hv;injection hv with hv;subst hv hvc;have x0:=cg wr _ eh;have y3r:=HMF.o wr _ eh (by simp);have aiY:=aa rN;have HFG:=aa hfg;have HFT:=aa hft;have S8:=aa (eh.alloc (.cells #[.int .u8 (mf.toNat:Int)] 5));have hgB:=gf.alloc (.cells #[.int .u8 (mf.toNat:Int)] 5);have zI:=aa (show aJ (wr.alloc (.cells #[.int .u8 (mf.toNat:Int)] 5)) (.slice (some ⟨wr.heap.size,0,none⟩) 1 1) [mf]from ag.abT rfl);have mQ:(j:Int)<(x.ad.length:Int):=by omega
    have Bo:(j:Int)<(c.P:Int):=by rw[od.o]at mQ;exact mQ
    unfold maxLen at hq Dk;have HZN:=aa (show((c.Z+28:Nat):Int)=(c.Z:Int)+28 by omega);clear cg rN hfg eh hbq;go_wp2_with fail
    refine(Cz (.slice (some ⟨wr.heap.size,0,none⟩) 1 1) mf (c.Z+28) _ _ zI.o S8.o (by omega) (by omega)).mono ?_;rintro e w3⟨v3,H3,rfl,jF,aD,bj⟩;have Jn:=au.reads jF aD;obtain⟨A3,q3,rfl⟩:=jF.val;simp only[gV]at Jn⊢;obtain⟨w4',H4',arA,pG,XN,agP⟩:=aiY.o w3 (H3++((wr.heap.size,.cells #[.int .u8 (mf.toNat:Int)] 5)::(F2++(Hr++(G4++(G++((t,ob)::Fr))))))) _ (c.Z+28) (List.replicate (c.Z+28) mf) (aD.p) Jn (aN _);have zM:iw (.slice (some ⟨gp,0,none⟩) x.ad.length cp) (mw x.ad (j+1) (c.Z+28) mf) H4':=by
     have IG:(x.ad[j]).drop (c.Z+28)=[]:=BN (by rw[HPZ.o _ (cX aG)];exact aN _);rw[HFG.o,IG,kZ,KD aG]at pG;exact pG
    have PI:=aa zM;have zJ:=aa XN;have Of:=aa ((hgB.trans bj).trans agP);clear pG zM XN agP aD bj jF Jn hgB gf;go_wp2_with fail
    exact⟨⟨j+1,H4',H3++((wr.heap.size,.cells #[.int .u8 (mf.toNat:Int)] 5)::F2),by omega,by go_num,PI.o,by have:=zJ.o;simpa using this,Of.o⟩,by simp[intOf];omega⟩
   ·obtain rfl:j=x.ad.length:=by omega
    rw[MR]at hbq;obtain⟨H9,xu,di⟩:=ko.o wr (F2++(G4++(G++((t,ob)::Fr)))) _ Hq hbq (by simp;rw[od.o,<-Xc];rfl) (fun p hp=>by rw[ow hp,gV];rw[<-Zj];rfl) (eh.p);have agQ:ai b g cap mv (cR.db k {x with ad:=List.replicate c.P (List.replicate (c.Z+28) mf),next:=nx,df:=x.df+1}) H9:=by
     rw[od.o]at xu;simp only[CM.db,List.set_set]at xu;exact xu
    have HDK:=aa (nX agQ di);have qP:¬((x.ad.length:Int)<(c.P:Int)):=by have:=od.o;omega
    clear xu agQ di hbq eh;go_wp2_with fail
    refine HDK.o.mono ?_;rintro e w9⟨ve9,iC,Is,rfl,p5,agR,dU,jG⟩;have Tg:=aa p5;have Dq:=aa agR;clear p5 agR;go_wp2_with fail
    go_ret;rw[Bn.o];exact⟨F2++(G4++(G++[(t,ob)])),_,iC,Is,rfl,Tg.o,Dq.o,dU.p,gf.trans jG⟩
end
end Go.Proofs.YtalnifciidblkaaGreatDoor
