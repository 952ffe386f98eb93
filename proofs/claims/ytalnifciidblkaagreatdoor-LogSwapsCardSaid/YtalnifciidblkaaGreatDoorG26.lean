/-
  Lemmas.
-/
import Derived.Test.YtalnifciidblkaaGreatDoorG12
namespace Go.Proofs.YtalnifciidblkaaGreatDoor
open _root_.Go.Proofs.Tryz
open Go.RowKit
set_option linter.unusedSimpArgs false
set_option linter.unusedVariables false
set_option maxRecDepth 20000
set_option maxHeartbeats 8000000
section
variable{b g cap:Nat}{mv:Value}{c:CM}{H Fr:HL}{w:World}
theorem ai.Vx(h:ai b g cap mv c H){k i:Nat}{x:CB}(raw:List UInt8)(hx:c.blocks[k]?=some x)(hi:i<c.P)(hn:x.next+1<=(c.P:Int)):
  ∃gp cp A q,q<=maxLen∧cp<=maxLen∧c.P<=cp∧c.Z+28<=q∧(∀(w:World) (F:HL),Holds w (H++F)->
  w.cell? ⟨g,k*5,none⟩=some (.slice (some ⟨gp,0,none⟩) c.P cp)∧w.cell? ⟨gp,i,none⟩=some (.slice (some ⟨A,0,none⟩) (c.Z+28) q))∧
  ∀(w:World) (F:HL) (src:Value) (m:Nat),Holds w (H++F)->ag w 1 src m ((raw.take m).map bh)->m<=c.Z+28->
   ∃w' H',(Builtin.copy_ #[60,60] 3 #[.slice (some ⟨A,0,none⟩) (c.Z+28) q,src]).run Tryz.prog w=.ok (.int .i64 (m:Int)) w'∧
    ai b g cap mv (c.db k (x.put i raw m)) H'∧Holds (w'.setCell ⟨g,k*5+1,none⟩ (.int .i64 (x.next+1))) (H'++F)∧af w (w'.setCell ⟨g,k*5+1,none⟩ (.int .i64 (x.next+1)))∧
    w'.cell? ⟨g,k*5+1,none⟩=some (.int .i64 x.next)∧w'.frozen? ⟨g,k*5+1,none⟩=false∧(w'.setCell ⟨g,k*5+1,none⟩ (.int .i64 (x.next+1))).cell? ⟨g,k*5+3,none⟩=some (.bool x.failed)∧
    (w'.setCell ⟨g,k*5+1,none⟩ (.int .i64 (x.next+1))).frozen? ⟨g,k*5+3,none⟩=false∧(c.db k (x.put i raw m)).blocks[k]?=some (x.put i raw m):=by
 obtain⟨gp,cp,A,q,a1,a2,a3,a4,a5,rN⟩:=h.Vw hx hi;refine⟨gp,cp,A,q,a1,a2,a3,a4,a5,fun w F src m hH hs hm=>?_⟩;obtain⟨w',H1,hr,ff,ax,aK⟩:=rN w F src m (raw.take m) hH hs hm;have hk:k<c.blocks.length:=(List.getElem?_eq_some_iff.1 hx).1;obtain⟨pv,hB⟩:=ff.open_ (k:=k) (x:={x with ad:=x.ad.set i (raw.take m++(x.ad.getD i []).drop m)}) (by simp[CM.db,hk]);obtain⟨_,e1,_,_,_,_,f1,_⟩:=hB.cells w' F ax;obtain⟨H2,gT,aB⟩:=hB.XL w' F (x.next+1) ax (by have:(0:Int)<=x.next:=hB.ok.2.2.1;omega) hn;have e:(c.db k {x with ad:=x.ad.set i (raw.take m++(x.ad.getD i []).drop m)}).db k {x with ad:=x.ad.set i (raw.take m++(x.ad.getD i []).drop m),next:=x.next+1}=c.db k (x.put i raw m):=by simp[CM.db,CB.put]
 have II:ai b g cap mv (c.db k (x.put i raw m)) H2:=by rw[<-e];exact gT
 have hb:(c.db k (x.put i raw m)).blocks[k]?=some (x.put i raw m):=by simp[CM.db,hk]
 obtain⟨pv2,Dj⟩:=II.open_ hb;obtain⟨_,_,_,g3,_,_,_,_,g4,_⟩:=Dj.cells _ F aB;exact⟨w',H2,hr,II,aB,aK.setCell _ _,e1,f1,g3,g4,hb⟩
theorem D8(k:Nat)(x:CB)(p:Int)(rv:Value)(raw:List UInt8)(h:ai b g cap mv c H)(hH:Holds w (H++Fr))(fI:c.ops<1000000000000)(hx:c.blocks[k]?=some x)
  (DT:bN Fr rv raw)(Zk:raw.length=c.Z+28):
  Calls Tryz.prog 69 #[.pointer (some ⟨b,0,none⟩),.int .i64 (k:Int),.int .i64 p,rv] w (BV b g cap mv (c.prog k x p raw) w Fr):=by
 have FM:c.there (k:Int)=true:=by have:=(List.getElem?_eq_some_iff.1 hx).1;unfold CM.there;exact decide_eq_true (by omega)
 have HT:=aa (kQ (w:=w) (k:Int) h hH);rw[FM]at HT;have S9:=aa (gI p 0 ((c.P:Int)-1) w);have HRW:=aa (Vu (w:=w) h hH);obtain⟨_,c1,_⟩:=h.gX hH;have rH:=h.o7.1;have Zg:=h.o7.2.1;have hZ:=h.o7.2.2.2.1;have h32:=h.o7.2.2.2.2.2.1;have TS:=h.o7.2.2.2.2.2.2.2.2.2.2.1;have auz:=h.o7.2.2.2.2.2.2.2.2.2.2.2.2.1;have arz:=h.o7.2.2.2.2.2.2.2.2.2.2.2.1;have agK:=h.o7.2.2.2.2.2.2.2.2.2.2.2.2.2 x (gD hx);have og:=h.Bl;unfold maxLen at og;have Tb:=aa (CM.Z7 h.o7);have k1:=cS;have k2:=cC;have am5:=aa DT;obtain⟨Ar,qr,rfl⟩:=(DT w hH.right).val;obtain⟨_,A0,q0,zK,agL,am6,agM⟩:=DT w hH.right;injection zK with zK gM mg;subst zK mg;obtain⟨rb,ro,rfl,_⟩:=agM (by omega);unfold maxLen at am6;rw[Zk]at agL⊢;have hre:((c.Z+28:Nat):Int)=(c.Z:Int)+28:=by omega
 obtain⟨P,Ta⟩:∃P,P=c.P:=⟨_,rfl⟩;rw[<-Ta]at c1 S9 rH Zg;obtain⟨Z,hZe⟩:∃Z,Z=c.Z:=⟨_,rfl⟩;rw[<-hZe]at HRW hZ agL hre⊢;obtain⟨gd,Jm⟩:∃gd,gd=decide ((0:Int)<=p∧p<=(P:Int)-1):=⟨_,rfl⟩;rw[<-Jm]at S9;have cm:c.prog k x p raw=if(c.jE gd).2.2≠0 then((c.jE gd).1,(c.jE gd).2.2)else if x.mark=true∨p≠x.next then(c.jE gd).1.ord (c.jE gd).2.1 false
  else px (c.jE gd).1 (c.jE gd).2.1 k x p.toNat raw:=by unfold CM.prog;rw[Jm,Ta]
 have Ai:=yp c gd;have Tc:=rm (w:=w) gd h hH (by omega);obtain⟨⟨c9,⟨ma,mk,mb,mf⟩,ec⟩,u9⟩:∃r,r=c.jE gd:=⟨_,rfl⟩;rw[<-u9]at Ai cm Tc;simp only at Ai cm;have HX:=aa hx;have HPe:=aa Ta;have HZe:=aa hZe;have Od:=aa Zk;have XM:=aa Jm;have jo:=aa cm;have IJ:=aa Ai;have HB9:=aa Tc;have hlen:((((Z+28:Nat):Int))==(Z:Int)+28)=true:=by rw[hre];simp
 clear h DT hx cm Ai Tc u9 Jm agM Zk FM Ta hZe gM;have tO:gd=false->ec≠0:=by
  rintro rfl;rcases IJ.o with⟨h1,_⟩|⟨_,h1,_⟩
  ·exact h1
  ·cases h1
 have aiX:=aa tO;clear tO;cases gd;all_goals
  go_enter func69,ntmps69;go_wp2_with fail
  refine HT.o.mono ?_;rintro e wx⟨rfl,rfl⟩;clear HT;go_wp2_with fail
  refine S9.o.mono ?_;rintro e wx⟨rfl,rfl⟩;clear S9;go_wp2_with fail
  try
   refine HRW.o.mono ?_;rintro e wx⟨rfl,rfl⟩;clear HRW;go_wp2_with fail
  refine HB9.o.mono ?_;rintro e w1⟨ve,H1,He,G,rfl,he,ff,ax,aK⟩;simp only[Mi.agg,bh]at he ff ax⊢;have sc:=aa ff;have Ir:=aa (ax.alloc (.cells #[.int .i64 ma,.int .i64 mk,.int .i64 mb,.int .u8 (mf.toNat:Int)] 87));have cJ:=aK.alloc (.cells #[.int .i64 ma,.int .i64 mk,.int .i64 mb,.int .u8 (mf.toNat:Int)] 87);clear ff;by_cases pc:ec=0;rotate_left
  ·obtain⟨b9,s9,rfl,_⟩:=cI he pc;have gO:=aa (show c.prog k x p raw=(c9,ec) by rw[jo.o,if_pos pc]);have HE:=aa he;clear he jo pc ax;go_wp2_with fail
   go_ret;rw[gO.o];exact⟨G++[(w1.heap.size,.cells #[.int .i64 ma,.int .i64 mk,.int .i64 mb,.int .u8 (mf.toNat:Int)] 87)],_,H1,He,rfl,HE.o,sc.o,Ir.o.p,cJ⟩
 ·exact absurd pc (aiX.o (by trivial))
 subst pc;obtain⟨rfl,rfl⟩:=de he;obtain⟨h9,_,fi⟩:(c9,(⟨ma,mk,mb,mf⟩:Mi),(0:Int))=({c with ops:=c.ops+1},c.mi,0)∧True∧c.on=true:=by
  rcases IJ.o with⟨h1,_⟩|h1
  ·exact absurd rfl h1
  ·exact h1
 injection h9 with h9 Td;injection Td with Td _;have HM4:=aa (show(mk=0∨mk=1∨mk=2)∧0<=mb∧mb<=65536 by have:=Tb.o;rw[<-Td]at this;exact this);have Lk:=aa (show c9.blocks[k]?=some x by rw[h9];exact HX.o);have HZ9:=aa (show c9.Z=Z by rw[h9];exact HZe.o.symm);have HP9:=aa (show c9.P=P by rw[h9];exact HPe.o.symm);have HO9:=aa (show c9.ops<=1000000000000∧c9.bZ+1<=c9.ops∧0<=c9.dF∧c9.dF+1<=c9.ops by rw[h9];show c.ops+1<=_∧c.bZ+1<=c.ops+1∧0<=c.dF∧c.dF+1<=c.ops+1;omega);have dZ:Holds (w1.alloc (.cells #[.int .i64 ma,.int .i64 mk,.int .i64 mb,.int .u8 (mf.toNat:Int)] 87)) (H1++(G++((w1.heap.size,.cells #[.int .i64 ma,.int .i64 mk,.int .i64 mb,.int .u8 (mf.toNat:Int)] 87)::Fr))):=Ir.o.p;have d3:=(sc.o.gX dZ).2.2.2.1;have Gb:c9.blocks.length=c.blocks.length:=by rw[h9]
 rw[Gb]at d3;have Dn:k<c.blocks.length:=(List.getElem?_eq_some_iff.1 HX.o).1;obtain⟨z0,z1,z2,z3,_⟩:=Ir.o.hJ;obtain⟨cF,eF,yV,ei,hXF⟩:∃c' e',c9.ord ⟨ma,mk,mb,mf⟩ false=(c',e')∧e'≠0∧c'.blocks[k]?=some x:=by unfold CM.ord;rw[if_neg (by decide)];split<;>exact⟨_,_,rfl,by decide,Lk.o⟩
 have HOF:=aa yV;have Dp:=aa ei;have HXF:=aa hXF;have HOT:=aa (show c9.ord ⟨ma,mk,mb,mf⟩ true=(c9,0)from rfl);have LC:=aa agK;clear he Ir ax yV ei hXF agK h9 Td fi Gb;have mM:(x.mark=true∧(x.mark=true∨p≠x.next))∨((x.mark=false∧(p==x.next)=false)∧(x.mark=true∨p≠x.next))∨((x.mark=false∧(p==x.next)=true)∧p=x.next∧¬(x.mark=true∨p≠x.next)):=by
  cases x.mark<;>by_cases hp:p=x.next<;>simp[hp]
 generalize Su:x.mark=xm at*;have HXM:=aa Su;clear Su;rcases mM with⟨rfl,hb⟩|⟨⟨rfl,e1⟩,hb⟩|⟨⟨rfl,e1⟩,Oe,hb⟩;rotate_left 2;all_goals
  have Eo:=aa hb;clear hb;try have LD:=aa Oe
  try clear Oe
  go_upto_region 5 with fail
  generalize w1.alloc (.cells #[.int .i64 ma,.int .i64 mk,.int .i64 mb,.int .u8 (mf.toNat:Int)] 87)=wA at*;generalize w1.heap.size=t at*;have HS:=aa (fun(wx:World) (cx:CM) (Hx F:HL) (hcx:ai b g cap mv cx Hx) (PH:cx.blocks[k]?=some x) (hx:Holds wx (Hx++F)) (hm:(t,Obj.cells #[.int .i64 ma,.int .i64 mk,.int .i64 mb,.int .u8 (mf.toNat:Int)] 87)∈F)=>
   show wx.cell? ⟨t,0,none⟩=some (.int .i64 ma)∧wx.cell? ⟨t,1,none⟩=some (.int .i64 mk)∧wx.cell? ⟨t,2,none⟩=some (.int .i64 mb)∧wx.cell? ⟨t,3,none⟩=some (.int .u8 (mf.toNat:Int))∧wx.cell? ⟨g,k*5+1,none⟩=some (.int .i64 x.next)∧wx.cell? ⟨g,k*5+4,none⟩=some (.bool x.mark)from by
    obtain⟨pv,hB⟩:=hcx.open_ PH;obtain⟨_,d1,_,_,d4,_⟩:=hB.cells wx F hx;exact⟨hx.cell (gr _ hm) 0,hx.cell (gr _ hm) 1,hx.cell (gr _ hm) 2,hx.cell (gr _ hm) 3,d1,d4⟩)
  rw[HXM.o]at HS;clear z0 z1 z2 z3
 rotate_left
 ·skip
  refine aF (fun wx=>wx.cell? ⟨t,0,none⟩=some (.int .i64 ma)∧wx.cell? ⟨t,1,none⟩=some (.int .i64 mk)∧wx.cell? ⟨t,2,none⟩=some (.int .i64 mb)∧wx.cell? ⟨t,3,none⟩=some (.int .u8 (mf.toNat:Int))∧wx.cell? ⟨g,k*5+1,none⟩=some (.int .i64 x.next)∧wx.cell? ⟨g,k*5+4,none⟩=some (.bool true)) 17 (by kernel_rfl) (fun w1 hd=>HS.o _ c9 H1 _ sc.o Lk.o (dZ.dr hd) (by simp)) (fun w1 hd hs=>?_);have aD:=dZ.dr hd;have cf:=cJ.trans (af.dr hd);clear hd dZ cJ;refine dY 0 1 2 3 ?_;refine dY 4 5 6 7 ?_;refine Zs 8 56 rfl hs ?_;simp only[pt,sA,sS,sZ];refine Zs 9 57 rfl hs ?_;simp only[pt,sA,sS,sZ];refine Zs 10 58 rfl hs ?_;simp only[pt,sA,sS,sZ];refine Zs 11 59 rfl hs ?_;simp only[pt,sA,sS,sZ];refine Zs 12 60 rfl hs ?_;simp only[pt,sA,sS,sZ];refine Zs 13 61 rfl hs ?_;simp only[pt,sA,sS,sZ];refine ji 14 ?_;refine Zm 15 fun K hK=>?_;go_simp;refine(rD ma mk mb mf false sc.o aD HO9.o.1 (fun _=>HO9.o.2.1)).mono ?_;rintro e w4 ⟨G4,Te,H4,AU,rfl,j9,vc,aU,bV⟩;rw[HOF.o]at j9 vc;refine hK _ _ (HS.o _ _ H4 _ vc (by exact HXF.o) aU (by simp)) (fun _=>?_);clear hK K hs;rename_i hs;refine ji 16 ?_;refine Ze ?_;obtain⟨b9,s9,rfl,_⟩:=cI j9 Dp.o;have LF:=aa j9;have Aj:=aa vc;have gO:=aa (show c.prog k x p raw=(cF,eF) by rw[jo.o,if_neg (by simp),if_pos (by first|exact Eo.o|(rw[HXM.o];exact Eo.o))];exact HOF.o);clear j9 vc jo;go_wp2_with fail
  go_ret;rw[gO.o];exact⟨G4++(G++[(t,.cells #[.int .i64 ma,.int .i64 mk,.int .i64 mb,.int .u8 (mf.toNat:Int)] 87)]),_,H4,AU,rfl,LF.o,Aj.o,aU.p,cf.trans bV⟩
 all_goals
  refine aF (fun wx=>wx.cell? ⟨t,0,none⟩=some (.int .i64 ma)∧wx.cell? ⟨t,1,none⟩=some (.int .i64 mk)∧wx.cell? ⟨t,2,none⟩=some (.int .i64 mb)∧wx.cell? ⟨t,3,none⟩=some (.int .u8 (mf.toNat:Int))∧wx.cell? ⟨g,k*5+1,none⟩=some (.int .i64 x.next)∧wx.cell? ⟨g,k*5+4,none⟩=some (.bool false)) 17 (by kernel_rfl) (fun w1 hd=>HS.o _ c9 H1 _ sc.o Lk.o (dZ.dr hd) (by simp)) (fun w1 hd hs=>?_);have aD:=dZ.dr hd;have cf:=cJ.trans (af.dr hd);clear hd dZ cJ;refine dY 0 1 2 3 ?_;refine dY 4 5 6 7 ?_;refine dY 8 9 10 11 ?_;refine Ag 12 13 14 ?_;refine Zm 15 fun K hK=>?_;go_simp;refine(rD ma mk mb mf _ sc.o aD HO9.o.1 (fun _=>HO9.o.2.1)).mono ?_;rintro e w4 ⟨G4,Te,H4,AU,rfl,j9,vc,aU,bV⟩;first|rw[HOF.o]at j9 vc|rw[HOT.o]at j9 vc
  refine hK _ _ (HS.o _ _ H4 _ vc (by first|exact HXF.o|exact Lk.o) aU (by simp)) (fun _=>?_);clear hK K hs;rename_i hs;refine ji 16 ?_;refine Ze ?_
 ·obtain⟨b9,s9,rfl,_⟩:=cI j9 Dp.o;have LF:=aa j9;have Aj:=aa vc;have gO:=aa (show c.prog k x p raw=(cF,eF) by rw[jo.o,if_neg (by simp),if_pos (by first|exact Eo.o|(rw[HXM.o];exact Eo.o))];exact HOF.o);clear j9 vc jo;go_wp2_with fail
  go_ret;rw[gO.o];exact⟨G4++(G++[(t,.cells #[.int .i64 ma,.int .i64 mk,.int .i64 mb,.int .u8 (mf.toNat:Int)] 87)]),_,H4,AU,rfl,LF.o,Aj.o,aU.p,cf.trans bV⟩
 obtain⟨rfl,rfl⟩:=de j9;have Aj:=aa vc;clear j9 vc;obtain⟨IK,LG⟩:(0:Int)<=p∧p<=(P:Int)-1:=of_decide_eq_true XM.o.symm;obtain⟨i,rfl⟩:=Int.eq_ofNat_of_zero_le IK;have hiP:i<P:=by omega
 obtain⟨gp,cp,A,q,hq,Dk,hPc,hZq,cg,rN⟩:=Aj.o.Vx raw Lk.o (i:=i) (by rw[HP9.o];exact hiP) (by rw[HP9.o,<-LD.o];omega);clear e1;rw[HP9.o]at hPc;rw[HZ9.o]at hZq rN;unfold maxLen at hq Dk;have zd:=aa (fun(wx:World) (F:HL) (hx:Holds wx (H4++F))=>show wx.cell? ⟨g,k*5,none⟩=some (.slice (some ⟨gp,0,none⟩) P cp)∧wx.cell? ⟨gp,i,none⟩=some (.slice (some ⟨A,0,none⟩) (Z+28) q)from by
  have:=cg wx F hx;rw[HP9.o,HZ9.o]at this;exact this)
 have zL:Holds w4 (H4++(G4++(G++((t,.cells #[.int .i64 ma,.int .i64 mk,.int .i64 mb,.int .u8 (mf.toNat:Int)] 87)::Fr)))):=aU.p;have LA:=cf.trans bV;obtain⟨z0,z1,z2,z3,_⟩:=HS.o w4 _ H4 _ Aj.o Lk.o zL (by simp);have d5:w4.cell? ⟨g,k*5+3,none⟩=some (.bool x.failed):=by obtain⟨pv,hB⟩:=Aj.o.open_ Lk.o;exact(hB.cells w4 _ zL).2.2.2.1
 have hxn:x.next<=8:=by have:=LC.o.2.2.2.1;rw[<-HPe.o]at this;omega
 have auA:0<=x.next:=LC.o.2.2.1;have HT1:=aa (fun(wx:World) (F:HL) (hx:Holds wx F) (hm:(t,Obj.cells #[.int .i64 ma,.int .i64 mk,.int .i64 mb,.int .u8 (mf.toNat:Int)] 87)∈F)=>show wx.cell? ⟨t,1,none⟩=some (.int .i64 mk)from hx.cell hm 1);generalize(Obj.cells #[.int .i64 ma,.int .i64 mk,.int .i64 mb,.int .u8 (mf.toNat:Int)] 87)=ob at*;obtain⟨M,hM⟩:∃M,M=ic ⟨ma,mk,mb,mf⟩ x raw.length:=⟨_,rfl⟩;have gO:=aa (show c.prog k x (i:Int) raw=if mk=2 then({c9.db k (x.put i raw M)with on:=false},4)else if mk=1∨x.failed=true then(c9.db k {x.put i raw M with failed:=true},5)else({c9.db k (x.put i raw M)with dF:=c9.dF+1},0) by
  rw[jo.o,if_neg (by simp),if_neg (by first|exact Eo.o|(rw[HXM.o];exact Eo.o)),hM];rfl)
 have mM:(x.failed=true∧(mk=0∨mk=1∨mk=2)∧M=0)∨(x.failed=false∧mk=1∧min mb ((Z:Int)+28-1)=(M:Int))∨(x.failed=false∧mk=2∧min mb ((Z:Int)+28)=(M:Int))∨(x.failed=false∧mk=0∧M=Z+28):=by
  obtain⟨h3,Wu,jj⟩:=HM4.o;have hl:raw.length=Z+28:=by rw[Od.o,<-HZe.o]
  unfold ic at hM;rw[hl]at hM;clear gO;cases hxf:x.failed<;>rcases h3 with rfl|rfl|rfl<;>simp[hxf]at hM⊢<;>omega
 have hMZ:M<=Z+28:=by omega
 have Ll:=aa (fun(wx:World) (hx:Holds wx (H4++(G4++(G++((t,ob)::Fr)))))=>
  rN wx _ (.slice (some ⟨rb,ro,none⟩) M qr) M hx (by have:=am5.o wx hx.right.right.right.tail;unfold aJ at this;rw[Od.o,<-HZe.o]at this;rw[List.map_take];exact ag.pre this hMZ) hMZ)
 have tI:(0:Int)<=(Z:Int)+28:=by omega
 have xC:(Z:Int)+28<=(qr:Int):=by omega
 have tJ:(M:Int)<=(qr:Int):=by omega
 have htn:((Z:Int)+28).toNat=Z+28:=by omega
 clear cg rN aU cf bV d3 hM jo HM4 Tb IJ HS hMZ;generalize x.failed=xf at*;rcases mM with⟨rfl,rfl|rfl|rfl,rfl⟩|⟨rfl,rfl,Lm⟩|⟨rfl,rfl,Lm⟩|⟨rfl,rfl,rfl⟩;all_goals
  try have xE:=aa Lm
  try clear Lm
  go_upto_region 15 with fail
  try rw[xE.o]
  refine aF (fun wx=>wx.cell? ⟨g,k*5,none⟩=some (.slice (some ⟨gp,0,none⟩) P cp)∧wx.cell? ⟨gp,i,none⟩=some (.slice (some ⟨A,0,none⟩) (Z+28) q)) 10 (by kernel_rfl) (fun w1 hd=>zd.o _ _ (zL.dr hd)) (fun w1 hd hs=>?_);have Xd:=zL.dr hd;have hGF:=LA.trans (af.dr hd);clear hd zL LA;obtain⟨w7,H8,Z8,IL,cT,ka,e1',f1',g3',g4',sg⟩:=Ll.o _ Xd;refine dY 0 1 2 3 ?_;refine dY 4 5 6 7 ?_;refine qL 8 9 ?_;refine Zl 10 fun K hK=>?_;refine EH rfl (.tmp 97) (.tmp 100) 60 60 (some 101) rfl rfl _ _ rfl rfl Z8 ?_;refine hK _ _ ?_;clear hK K hs;refine Ze ?_;have iT:=hGF.trans ka;have y1:=HT1.o _ _ cT (by simp);obtain⟨_,_,_,_,_,_,_,_,q8,_,_,_,q9⟩:=IL.gX cT;have q8':(w7.setCell ⟨g,k*5+1,none⟩ (.int .i64 (x.next+1))).cell? ⟨b,8,none⟩=some (.int .i64 c9.dF):=q8;obtain⟨pv8,Zn⟩:=IL.open_ sg;obtain⟨o1,o2,o3,o4⟩:=HO9.o;have hpw:wrap64 (c9.dF+1)=c9.dF+1:=by unfold wrap64;omega
  obtain⟨HA,hcA,bM⟩:=IL.KC cT (c9.dF+1) (by omega) o4;obtain⟨HB,Tf,P6⟩:=Zn.agJ _ _ true cT;have abW:=aa (aS hcA (aS bM (iT.setCell ⟨b,8,none⟩ (.int .i64 (c9.dF+1)))));have HCB:=aa (show ai b g cap mv (c9.db k {x.put i raw _ with failed:=true}) HB from by
   have e:=Tf;simp only[CM.db,List.set_set]at e;exact e)
  have HGB:=aa (iT.setCell ⟨g,k*5+3,none⟩ (.bool true));have HWR:=aa (kP 5 _ _ (by omega) P6);have HDK:=aa (nX IL cT);have HG8:=aa iT;clear IL Zn bM hcA Tf P6 cT Xd hGF ka iT Z8 sg Ll zd z0 z1 z2 z3 q8;first
  |(have FN:=aa (show c.prog k x (i:Int) raw=({c9.db k (x.put i raw _)with on:=false},4)from by rw[gO.o,if_pos rfl])
    go_wp2_with fail
    refine HDK.o.mono ?_;rintro e w9⟨ve9,H9,Is,rfl,p5,xu,di,jG⟩;have Tg:=aa p5;have Dq:=aa xu;clear p5 xu;go_wp2_with fail
    go_ret;rw[FN.o];exact⟨G4++(G++[(t,ob)]),_,H9,Is,rfl,Tg.o,Dq.o,di.p,HG8.o.trans jG⟩)
  |(have FN:=aa (show c.prog k x (i:Int) raw=(c9.db k {x.put i raw _ with failed:=true},5)from by rw[gO.o,if_neg (by decide),if_pos (by first|exact .inl rfl|exact .inr rfl)])
    go_wp2_with fail
    refine HWR.o.mono ?_;rintro e w9⟨ve9,Is,rfl,p5,di,jG⟩;have Tg:=aa p5;clear p5;go_wp2_with fail
    go_ret;rw[FN.o];exact⟨G4++(G++[(t,ob)]),_,HB,Is,rfl,Tg.o,HCB.o,di.p,HGB.o.trans jG⟩)
  |(have FN:=aa (show c.prog k x (i:Int) raw=({c9.db k (x.put i raw _)with dF:=c9.dF+1},0)from by rw[gO.o,if_neg (by decide),if_neg (by decide)])
    go_wp2_with fail
    go_ret;rw[FN.o];exact⟨G4++(G++[(t,ob)]),.nilIface,HA,[],rfl,bJ.none,abW.o.1,abW.o.2.1.p,abW.o.2.2⟩)
end
end Go.Proofs.YtalnifciidblkaaGreatDoor
