/-
  Lemmas.
-/
import Derived.Test.YtalnifciidblkaaGreatDoorRL17L
import Derived.Test.YtalnifciidblkaaGreatDoorRMl11
namespace Go.Proofs.YtalnifciidblkaaGreatDoor
open _root_.Go.Proofs.Tryz
open Go.RowKit
set_option linter.unusedSimpArgs false
set_option linter.unusedVariables false
set_option maxRecDepth 100000
set_option maxHeartbeats 8000000
theorem W0.mono{k m:Nat}{l:LM}{s:SM}{c:CM}(h:W0 k l s c)(hm:k<=m):W0 m l s c:=
 ⟨h.C,h.L,h.q,h.ja,h.pg,by have:=h.len;omega,h.inc,h.pk,by have:=h.last;omega,h.gen,by have:=h.ad;omega,by have:=h.ops;omega,by have:=h.room;omega⟩
theorem Sq:(aL aR (bW (CM.new 16 4 128 [] [])).1 (CM.new 16 4 128 [] [])).2.2.2=0∧W0 0 (aL aR (bW (CM.new 16 4 128 [] [])).1 (CM.new 16 4 128 [] [])).1 (aL aR (bW (CM.new 16 4 128 [] [])).1 (CM.new 16 4 128 [] [])).2.1 (aL aR (bW (CM.new 16 4 128 [] [])).1 (CM.new 16 4 128 [] [])).2.2.1∧(aL aR (bW (CM.new 16 4 128 [] [])).1 (CM.new 16 4 128 [] [])).1.T=[]:=by
 obtain⟨_,pK,rT,gF,ju,ir⟩:=pA [];have hr:bE (bW (CM.new 16 4 128 [] [])).1 (CM.new 16 4 128 [] [])=64:=by have:=AQ;rw[Px];exact this
 obtain⟨f1,f2,f3,f4,f5,f6,f7,f8,f9,f10,f11⟩:=Cu (nm:=aR) eI pK rT yQ gF ju (fun n _=>nB [] [] n) (by rw[hr];omega);rw[hr]at f8;rw[ir]at f11;generalize aL aR (bW (CM.new 16 4 128 [] [])).1 (CM.new 16 4 128 [] [])=r at*;obtain⟨es,bK,nps,q0,I⟩:=f2.inv;exact⟨f1,⟨f2.yk.1,I.live,f3,f2.ja,by rw[f4];intro e he;exact absurd he (by simp),by rw[f4];simp,I.lA.inc,by rw[f4];rfl,by rw[f7];omega,by rw[f6];omega,by rw[f5];omega,by omega,by rw[f8];omega⟩,f4⟩
theorem Dg(n:Nt)(a bb:Int)(str:_)(W:World)(hn:n.vg)(ha:0<=a∧a<18446744073709551616)(hb:0<=bb∧bb<18446744073709551616):Calls Tryz.prog 3 #[n.agg,.int .u64 a,.int .u64 bb,.string str] W (cM (.bool true) W (ao W)):=by
 have hH:=holds_all W;have k1:=oF;have k2:=nil_eq;have k3:=cS;have k4:=cC;have jD:=af.refl W;have Ud:=aa (fun wx F hx=>Fw n wx F hx);have aiI:=aa hn;have Jh:=aa (aS ha hb);obtain⟨nok,Yq⟩:∃x,x=n.ok:=⟨_,rfl⟩;have DQ:=aa (show n=n from rfl);obtain⟨ng,⟨na,np,nd,nq⟩⟩:=n;simp only[Nt.agg]at*;clear hn ha hb;have Mp:=hH.alloc (.cells #[.bool ng,.int .u64 na,.int .i64 np,.bool nd,.int .i64 nq] 26);have ac8:=jD.alloc (.cells #[.bool ng,.int .u64 na,.int .i64 np,.bool nd,.int .i64 nq] 26);obtain⟨nb0,aiJ⟩:∃x,x=W.heap.size:=⟨_,rfl⟩;rw[<-aiJ]at Mp;generalize aiK:(nb0,Obj.cells #[.bool ng,.int .u64 na,.int .i64 np,.bool nd,.int .i64 nq] 26)::ao W=Fr at*;have Xf:=aa aiK;clear aiK;go_enter func3,ntmps3;by_cases avm:(100:Int)<(str.size:Int)
 ·go_wp2_with fail
  refine(eN _ _ Mp).mono ?_;rintro e wa⟨rfl,fU,vC⟩;rw[<-Xf.o]at fU;go_wp2_with fail
  go_ret;exact⟨rfl,fU.tail,ac8.trans vC⟩
 have HN:=aa (oN _ _ Mp);clear hH Mp;go_wp2_with fail
 refine HN.o.mono ?_;rintro e w2⟨dv,H0,rfl,⟨cb,g,cap,mv,rfl,jQ⟩,aB,aX⟩;have jQ:ai cb g cap mv (CM.new 16 4 128 [] []) H0:=jQ;have cY:=ac8.trans aX;obtain⟨qM,pK,rT,gF,ju,ir⟩:=pA [];have qI:=aa (nT jQ aB (mA [] []) rfl (by rw[ir];omega));have tS:bW (CM.new 16 4 128 [] [])=((bW (CM.new 16 4 128 [] [])).1,CM.new 16 4 128 [] [],0):=mG qM;have jq:=fO (nm:=aR) eI pK rT gF ju (fun n _=>nB [] [] n);have TI:=Sq;have yT:=TI.1;generalize(bW (CM.new 16 4 128 [] [])).1=s0 at*;generalize CM.new 16 4 128 [] []=c0 at*;rw[tS]at qI;have xJ:eT s0 (aC s0)=0∧dp s0 (aC s0)=0:=by
  rw[cL pK,jq.1];exact⟨rfl,rfl⟩
 have rI:=aa (aS yT jq);have HQF:=aa TI.2;have mO:=aa (aS pK (aS rT (aS gF (aS ir xJ))));clear jQ aB aX HN qM tS jq pK rT gF ju ir xJ yT TI jD ac8;go_wp2_with fail
 refine qI.o.mono ?_;rintro e w3 (⟨h0,sb,Hs,Hc,rfl,hs,cz,aD,bj⟩|⟨h0,_⟩);rotate_left
 ·exact absurd rfl h0
 dsimp only at hs cz;have cf:=cY.trans bj;have xB:=aa (show Calls Tryz.prog 12 #[.pointer (some ⟨sb,0,none⟩),.string {data:=#[115,104,101,108,102]}] w3 (zh sb cb g cap mv (aL aR s0 c0) w3 (Fr))from
  iI aR eI hs cz aD mO.o.1 mO.o.2.1 (by rw[mO.o.2.2.1.1];omega) (by rw[mO.o.2.2.2.1];omega) (by rw[mO.o.2.2.2.2.1];omega) (by rw[mO.o.2.2.2.2.2];omega))
 have fZ:=rI.o.2.2.2.2.2;have jj:=rI.o.1;generalize aL aR s0 c0=r at*;have ir:=mO.o.2.2.2.1;have uz:W0 0 r.1 r.2.1 r.2.2.1∧r.1.T=[]:=HQF.o;have jH:=aa uz;have zI:=aa jj;clear hs cz aD bj h0 qI cY fZ jj ir uz;go_wp2_with fail
 refine xB.o.mono ?_;rintro e w5⟨jl,pZ,lu,fS,dJ,(⟨h0,b,H5,rfl,ki,bg⟩|⟨h0,ve,He,rfl,he,bg⟩)⟩;rotate_left
 ·exact absurd zI.o h0
 have eY:=cf.trans dJ;have pL:=aa ki;have xz:=aa lu;have tN:=aa fS;clear xB h0 mO zI ki lu fS dJ cf;have Xg:=aa jH.o;have FZ:=Wo ⟨false,⟨a,60,true,9⟩⟩ ⟨false,⟨bb,60,false,10⟩⟩ rfl rfl rfl rfl rfl;have bM:=bg.alloc (.cells #[.bool false,.int .u64 a,.int .i64 60,.bool true,.int .i64 9] 26);have cJ:=eY.alloc (.cells #[.bool false,.int .u64 a,.int .i64 60,.bool true,.int .i64 9] 26);clear bg eY;go_upto_region 11 with fail
 generalize w5.alloc (.cells #[.bool false,.int .u64 a,.int .i64 60,.bool true,.int .i64 9] 26)=w6 at*;generalize w5.heap.size=nx at*;have dZ:=bM.alloc (.cells #[.bool false,.int .u64 bb,.int .i64 60,.bool false,.int .i64 10] 26);have iZ:=cJ.alloc (.cells #[.bool false,.int .u64 bb,.int .i64 60,.bool false,.int .i64 10] 26);clear bM cJ;go_upto_region 12 with fail
 generalize w6.alloc (.cells #[.bool false,.int .u64 bb,.int .i64 60,.bool false,.int .i64 10] 26)=w7 at*;generalize w6.heap.size=ny at*;obtain⟨y0,y1,y2,y3,y4⟩:=dZ.note;obtain⟨x0,x1,x2,x3,x4⟩:=dZ.tail.note;have qJ:=dZ.alloc (.cells #[.bool false,.int .u64 a,.int .i64 60,.bool true,.int .i64 9,.bool false,.int .u64 bb,.int .i64 60,.bool false,.int .i64 10] 26);have ZN:=iZ.alloc (.cells #[.bool false,.int .u64 a,.int .i64 60,.bool true,.int .i64 9,.bool false,.int .u64 bb,.int .i64 60,.bool false,.int .i64 10] 26);obtain⟨gz,lT⟩:∃x,x=w7.heap.size:=⟨_,rfl⟩;rw[<-lT]at qJ;have Jj:cU ((gz,(.cells #[.bool false,.int .u64 a,.int .i64 60,.bool true,.int .i64 9,.bool false,.int .u64 bb,.int .i64 60,.bool false,.int .i64 10] 26))::((ny,(.cells #[.bool false,.int .u64 bb,.int .i64 60,.bool false,.int .i64 10] 26))::((nx,(.cells #[.bool false,.int .u64 a,.int .i64 60,.bool true,.int .i64 9] 26))::Fr))) (.slice (some ⟨gz,0,none⟩) 2 2) [⟨false,⟨a,60,true,9⟩⟩,⟨false,⟨bb,60,false,10⟩⟩]:=fun wx hx=>
  ag.ft (n:=2) (c:=2) (o:=0) (g:=gz) (hx.get (b:=gz) (o:=(.cells #[.bool false,.int .u64 a,.int .i64 60,.bool true,.int .i64 9,.bool false,.int .u64 bb,.int .i64 60,.bool false,.int .i64 10] 26)) (by simp)) _ rfl (by omega) (by simp[maxLen]) (by intro j u hu;simpa[yX,Nt.cells,az.cells]using hu)
 have Qb:∀n∈[(⟨false,⟨a,60,true,9⟩⟩:Nt),⟨false,⟨bb,60,false,10⟩⟩],n.vg:=by
  intro n hn;simp only[l6,rL,or_false]at hn;rcases hn with rfl|rfl
  ·exact⟨Jh.o.1,by show((-9223372036854775808:Int)<=60∧(60:Int)<=9223372036854775807);omega,by show((-9223372036854775808:Int)<=9∧(9:Int)<=9223372036854775807);omega⟩
  ·exact⟨Jh.o.2,by show((-9223372036854775808:Int)<=60∧(60:Int)<=9223372036854775807);omega,by show((-9223372036854775808:Int)<=10∧(10:Int)<=9223372036854775807);omega⟩
 have h1:=Xg.o.1;have nO:=h1.ym (by omega) (ns:=[⟨false,⟨a,60,true,9⟩⟩,⟨false,⟨bb,60,false,10⟩⟩]) (by simp) Qb;have jq:=h1.len;have hbp:=h1.ad;have XD:=h1.ops;have pF:=aa (jO (.slice (some ⟨gz,0,none⟩) 2 2) _ pL.o xz.o tN.o (show Holds _ (H5++(jl++(pZ++((gz,(.cells #[.bool false,.int .u64 a,.int .i64 60,.bool true,.int .i64 9,.bool false,.int .u64 bb,.int .i64 60,.bool false,.int .i64 10] 26))::((ny,(.cells #[.bool false,.int .u64 bb,.int .i64 60,.bool false,.int .i64 10] 26))::((nx,(.cells #[.bool false,.int .u64 a,.int .i64 60,.bool true,.int .i64 9] 26))::Fr))))))from qJ.p) h1.C h1.L (by rw[h1.ja.1];omega) (by omega) Jj Qb (by simp) h1.pg (by omega) h1.inc (by have:=h1.last;omega) (by have:=h1.gen;omega) (by omega));rw[Xg.o.2]at nO;rw[FZ]at nO;have XK:((a=bb∧(aA r.1 r.2.1 r.2.2.1 [⟨false,⟨a,60,true,9⟩⟩,⟨false,⟨bb,60,false,10⟩⟩]).2.2.2=0)∨(a≠bb∧(aA r.1 r.2.1 r.2.2.1 [⟨false,⟨a,60,true,9⟩⟩,⟨false,⟨bb,60,false,10⟩⟩]).2.2.2=2∧(aA r.1 r.2.1 r.2.2.1 [⟨false,⟨a,60,true,9⟩⟩,⟨false,⟨bb,60,false,10⟩⟩]).1.T=[]))∧
   W0 2 (aA r.1 r.2.1 r.2.2.1 [⟨false,⟨a,60,true,9⟩⟩,⟨false,⟨bb,60,false,10⟩⟩]).1 (aA r.1 r.2.1 r.2.2.1 [⟨false,⟨a,60,true,9⟩⟩,⟨false,⟨bb,60,false,10⟩⟩]).2.1 (aA r.1 r.2.1 r.2.2.1 [⟨false,⟨a,60,true,9⟩⟩,⟨false,⟨bb,60,false,10⟩⟩]).2.2.1:=by
  by_cases h:a=bb
  ·obtain⟨z1,z2,_⟩:=nO.1 (decide_eq_true h);exact⟨aQ ⟨h,z1⟩,z2⟩
  ·have z:=nO.2 (decide_eq_false h);rw[z];exact⟨aE ⟨h,rfl,Xg.o.2⟩,h1.mono (by omega)⟩
 have BE:=aa XK;generalize aA r.1 r.2.1 r.2.2.1 [⟨false,⟨a,60,true,9⟩⟩,⟨false,⟨bb,60,false,10⟩⟩]=r2 at*;generalize aiL:(gz,Obj.cells #[.bool false,.int .u64 a,.int .i64 60,.bool true,.int .i64 9,.bool false,.int .u64 bb,.int .i64 60,.bool false,.int .i64 10] 26)::((ny,(.cells #[.bool false,.int .u64 bb,.int .i64 60,.bool false,.int .i64 10] 26))::((nx,(.cells #[.bool false,.int .u64 a,.int .i64 60,.bool true,.int .i64 9] 26))::Fr))=DC at*;have ac9:=aa aiL;clear aiL nO XK Jj Qb h1 jq hbp XD dZ qJ FZ pL xz tN Xg jH iZ;go_wp2_with fail
 rw[<-lT];refine pF.o.mono ?_;rintro e w8⟨ve,He,H1,kE,jJ,rfl,he,iY,kU,jr,ax,aK⟩;have gY:=ZN.trans aK;have FV:=aa iY;have HT1:=aa kU;have sc:=aa jr;have HE:=aa he;clear iY kU jr he aK ZN pF x0 x1 x2 x3 x4 y0 y1 y2 y3 y4;go_upto_region 13 with fail
 go_cut [85]from 65 to 84 (fun bv wx=>bv=.bool false∧Holds wx (H1++(kE++(jJ++DC)))∧af W wx)
 case first=>
  rcases BE.o.1 with⟨rfl,jQ⟩|⟨Ls,jQ,hT0⟩
  ·obtain⟨rfl,rfl⟩:=de (by have:=HE.o;rwa[jQ]at this);go_wp2_with fail
   go_meet
   exact⟨rfl,ax.p,gY⟩
  ·obtain⟨be,se,rfl,rfl⟩:=cI (by have:=HE.o;rwa[jQ]at this) (by decide:(2:Int)≠0);have avn:(a==bb)=false:=beq_eq_false_iff_ne.2 Ls;have tX:=aa (jL _ 2 _ _ w8 (by have:=HE.o;rwa[jQ]at this) (show Holds w8 ([(be,.cells #[.int .i64 2,.string se] 143)]++(H1++(kE++(jJ++DC))))from ax.p) (by omega));have F3:=aa (cD FV.o (Fr:=kE++(jJ++DC)) (w:=w8) ax.p);rw[hT0]at F3;clear ax;go_wp2_with fail
   refine tX.o.mono ?_;rintro e wx⟨rfl,rfl⟩;go_wp2_with fail
   refine F3.o.mono ?_;rintro e w9⟨v9,Is,rfl,p5,di,jG⟩;obtain⟨A9,c9,rfl⟩:=p5.val;have iU:=gY.trans jG;clear p5 jG gY;go_wp2_with fail
   go_meet
   exact⟨rfl,di.right,iU⟩
 case rest=>
  obtain⟨rfl,aB,cY⟩:=hcut;clear ax gY;go_wp2_with fail
  have F3:=aa (cD FV.o (w:=wc) (Fr:=kE++(jJ++DC)) aB.p);have HNC:=aa (fun(wx:World) (F:HL) (hx:Holds wx (F++DC))=>show wx.cell? ⟨W.heap.size,0,none⟩=some (.bool ng)∧wx.cell? ⟨W.heap.size,1,none⟩=some (.int .u64 na)∧wx.cell? ⟨W.heap.size,2,none⟩=some (.int .i64 np)∧wx.cell? ⟨W.heap.size,3,none⟩=some (.bool nd)∧wx.cell? ⟨W.heap.size,4,none⟩=some (.int .i64 nq)from by
   rw[<-aiJ];have h:=hx.right;rw[<-ac9.o]at h;have h2:=h.tail.tail.tail;rw[<-Xf.o]at h2;exact h2.note)
  have HXC:=aa (fun(wx:World) (F:HL) (hx:Holds wx (F++DC))=>show wx.cell? ⟨nx,0,none⟩=some (.bool false)∧wx.cell? ⟨nx,1,none⟩=some (.int .u64 a)∧wx.cell? ⟨nx,2,none⟩=some (.int .i64 60)∧wx.cell? ⟨nx,3,none⟩=some (.bool true)∧wx.cell? ⟨nx,4,none⟩=some (.int .i64 9)from by
   have h:=hx.right;rw[<-ac9.o]at h;exact h.tail.tail.note)
  clear aB;refine F3.o.mono ?_;rintro e w9⟨vw,Hw,rfl,hw,di,jG⟩;have iU:=cY.trans jG;have HVW:=aa hw;obtain⟨Aw,cw,rfl⟩:=hw.val;have Mq:Holds w9 ((kE++(jJ++(Hw++H1)))++DC):=di.p;obtain⟨z0,z1,z2,z3,z4⟩:=HNC.o w9 _ Mq;have bM:=Mq.alloc (.cells #[.bool ng,.int .u64 na,.int .i64 np,.bool nd,.int .i64 nq] 26);have cJ:=iU.alloc (.cells #[.bool ng,.int .u64 na,.int .i64 np,.bool nd,.int .i64 nq] 26);obtain⟨gq,Ep⟩:∃x,x=w9.heap.size:=⟨_,rfl⟩;rw[<-Ep]at bM;have h1:=BE.o.2;have jq:=h1.len;have hbp:=h1.ad;have XD:=h1.ops;have XR:∀n∈[(⟨ng,⟨na,np,nd,nq⟩⟩:Nt)],n.vg:=fun n hn=>by rw[List.mem_singleton.1 hn];exact aiI.o
  have pF:=aa (jO (.slice (some ⟨gq,0,none⟩) 1 1) [⟨ng,⟨na,np,nd,nq⟩⟩] FV.o HT1.o sc.o (show Holds _ (H1++(kE++(jJ++((gq,(.cells #[.bool ng,.int .u64 na,.int .i64 np,.bool nd,.int .i64 nq] 26))::(Hw++DC)))))from bM.p) h1.C h1.L (by rw[h1.ja.1];omega) (by omega) (iB gq ⟨ng,⟨na,np,nd,nq⟩⟩ (Hw++DC)) XR (by simp) h1.pg (by omega) h1.inc (by have:=h1.last;omega) (by have:=h1.gen;omega) (by omega));have nO:=h1.ym (by omega) (ns:=[⟨ng,⟨na,np,nd,nq⟩⟩]) (by simp) XR;have aiM:(nok=false->(aA r2.1 r2.2.1 r2.2.2.1 [⟨ng,⟨na,np,nd,nq⟩⟩]).2.2.2=2∧(aA r2.1 r2.2.1 r2.2.2.1 [⟨ng,⟨na,np,nd,nq⟩⟩]).1.T=r2.1.T)∧W0 4 (aA r2.1 r2.2.1 r2.2.2.1 [⟨ng,⟨na,np,nd,nq⟩⟩]).1 (aA r2.1 r2.2.1 r2.2.2.1 [⟨ng,⟨na,np,nd,nq⟩⟩]).2.1 (aA r2.1 r2.2.1 r2.2.2.1 [⟨ng,⟨na,np,nd,nq⟩⟩]).2.2.1:=by
   cases hm:lW r2.1.T [⟨ng,⟨na,np,nd,nq⟩⟩]with
   |true=>
    obtain⟨_,q2,_⟩:=nO.1 hm;refine⟨fun h=>?_,q2⟩;rw[h]at Yq;unfold lW at hm;simp only[List.all_cons,<-Yq,Bool.false_and]at hm;exact absurd hm (by decide)
   |false=>
    rw[nO.2 hm];exact⟨fun _=>⟨rfl,rfl⟩,h1.mono (by omega)⟩
  have aiN:=aa aiM;generalize aA r2.1 r2.2.1 r2.2.2.1 [⟨ng,⟨na,np,nd,nq⟩⟩]=r3 at*;rw[<-Yq]at Ud;clear di Mq bM h1 jq hbp XD nO aiM XR iU jG cY F3 hw Yq;go_wp2_with fail
  rw[<-Ep];refine pF.o.mono ?_;rintro e lQ⟨ve2,St,H2,OK,oS,rfl,oU,lP,tg,pO,dU,gj⟩;have ia:=cJ.trans gj;have SL:=aa lP;have WJ:=aa tg;have HC2:=aa pO;have LB:=aa oU;have ew:Holds lQ ((St++(H2++(OK++(oS++Hw))))++DC):=dU.p;clear lP tg pO oU gj cJ pF z0 z1 z2 z3 z4 dU;go_upto_region 17 with fail
  go_cut [106]from 92 to 105 (fun bv wx=>bv=.bool false∧Holds wx (H2++(OK++(oS++DC)))∧af W wx)
  case first=>
   obtain⟨z0,z1,z2,z3,z4⟩:=HNC.o lQ _ ew;have lR:=aa (Ud.o lQ _ ew);cases nok with
   |true=>
    clear ew;go_wp2_with fail
    refine lR.o.mono ?_;rintro e uw⟨rfl,iq,ss⟩;have sy:=ia.trans ss;clear z0 z1 z2 z3 z4;go_wp2_with fail
    go_meet
    exact⟨rfl,iq.p,sy⟩
   |false=>
    obtain⟨gT,ZW⟩:=aiN.o.1 rfl;clear ew;go_wp2_with fail
    refine lR.o.mono ?_;rintro e uw⟨rfl,iq,ss⟩;have sy:=ia.trans ss;have tX:=aa (jL _ 2 _ _ uw (by have:=LB.o;rwa[gT]at this) (show Holds uw (St++(H2++(OK++(oS++(Hw++DC)))))from iq.p) (by omega));have F3:=aa (cD SL.o (Fr:=OK++(oS++(Hw++DC))) (w:=uw) iq.p);clear z0 z1 z2 z3 z4 iq ss ia;go_wp2_with fail
    refine tX.o.mono ?_;rintro e wx⟨rfl,rfl⟩;go_wp2_with fail
    refine F3.o.mono ?_;rintro e Lo⟨v12,aiO,rfl,Qq,nQ,BI⟩;have xW:=sy.trans BI;have pH:=aa (mH v12 (.slice Aw r2.1.T.length cw) r2.1.T Lo (by have h:=Qq.at_ nQ;rwa[ZW]at h) (HVW.o.at_ (Fr:=aiO++(H2++(OK++(oS++DC)))) nQ.p));have vi:=aa (show Holds Lo (H2++(OK++(oS++DC)))from nQ.p);clear Qq nQ BI sy;go_wp2_with fail
    refine pH.o.mono ?_;rintro e w13⟨rfl,q13,rfl⟩;have Ui:=vi.o.drewN q13;have aoN:=xW.drewN q13;generalize Lo.drewN q13=w13 at*;go_wp2_with fail
    go_meet
    exact⟨rfl,Ui,aoN⟩
  case rest=>
   obtain⟨rfl,aD,cf⟩:=hcut;clear ew ia Ud aiI;have Sy:=aa (Ic (.string {data:=#[97]}) wc _ aD);clear aD;go_wp2_with fail
   refine Sy.o.mono ?_;rintro e w4⟨Te,AU,rfl,j9,aU,bV⟩;have bI:=cf.trans bV;have LF:=aa j9;have Iv:=aa (NZ w4 _ aU);clear aU bV cf j9 Sy;go_wp2_with fail
   refine Iv.o.mono ?_;rintro e w6⟨ve6,ti,rfl,zO,bC,eJ⟩;have jn:=bI.trans eJ;have Ov:=aa zO;have HF3:=aa (show Calls Tryz.prog 19 #[.pointer none,.int .u64 a] w6 (cM (.tuple #[.agg #[.int .u64 0,.int .i64 0,.bool false,.int .i64 0],.bool false]) w6 _)from NA a w6 _ bC);clear bC eJ bI zO Iv;go_wp2_with fail
   refine HF3.o.mono ?_;rintro e w7'⟨rfl,cA,jk⟩;have fx:=jn.trans jk;have vv:=aa (fun(wx:World) (F:HL) (hx:Holds wx (F++DC))=>show Holds wx (ao W)from by
    have h:=hx.right;rw[<-ac9.o]at h;have h2:=h.tail.tail.tail;rw[<-Xf.o]at h2;exact h2.tail)
   have zL:=cA.alloc (.cells #[.int .u64 0,.int .i64 0,.bool false,.int .i64 0] 24);have LA:=fx.alloc (.cells #[.int .u64 0,.int .i64 0,.bool false,.int .i64 0] 24);clear cA jk jn HF3 fx;go_upto_region 23 with fail
   generalize w7'.alloc (.cells #[.int .u64 0,.int .i64 0,.bool false,.int .i64 0] 24)=w8' at*;have cT:Holds w8' (H2++(OK++(oS++(AU++(ti++DC))))):=zL.p;clear zL;have h1:=aiN.o.2;have jq:=h1.len;have hbp:=h1.ad;have XD:=h1.ops;have pF:=aa (jO (.slice none 0 0) [] SL.o WJ.o HC2.o cT h1.C h1.L (by rw[h1.ja.1];omega) (by omega) (fun wx hx=>⟨rfl,none,0,rfl,aN _,by simp[maxLen],fun h=>absurd h (by simp)⟩) (fun n hn=>absurd hn (by simp)) (by simp) h1.pg (by omega) h1.inc (by have:=h1.last;omega) (by have:=h1.gen;omega) (by omega));have nO:=((h1.ym (by omega) (ns:=[]) (by simp) (fun n hn=>absurd hn (by simp))).1 (Y8 h1.pk (by omega))).1;have Aj:=aa nO;generalize aA r3.1 r3.2.1 r3.2.2.1 []=r4 at*;clear h1 jq hbp XD nO cT;go_wp2_with fail
   refine pF.o.mono ?_;rintro e w9'⟨ve9,Is,H9,L0,L1,rfl,p5,-,-,-,di,jG⟩;obtain⟨rfl,rfl⟩:=de (by have:=p5;rwa[Aj.o]at this);have aoO:=LA.trans jG;have oe:Holds w9' ((AU++ti)++DC):=(show Holds w9' (AU++(ti++DC))from di.p).p;obtain⟨x0,x1,x2,x3,x4⟩:=HXC.o w9' _ oe;have bM:=oe.alloc (.cells #[.bool false,.int .u64 a,.int .i64 60,.bool true,.int .i64 9] 26);have cJ:=aoO.alloc (.cells #[.bool false,.int .u64 a,.int .i64 60,.bool true,.int .i64 9] 26);have HNI:=aa (Hh (.slice (some ⟨w9'.heap.size,0,none⟩) 1 1) _ _ bM);clear p5 di jG LA pF oe bM;go_wp2_with fail
   refine HNI.o.mono ?_;rintro e ada⟨Mx,iD,rfl,kq,dU,gj⟩;have aaI:=cJ.trans gj;have P6:Holds ada (iD++(AU++(ti++DC))):=dU.p;have tX:=aa (jL _ 1 _ _ ada kq P6 (by omega));have FQ:=aa (K7 ada _ P6);clear x0 x1 x2 x3 x4 kq dU gj cJ HNI P6;go_wp2_with fail
   refine tX.o.mono ?_;rintro e wx⟨rfl,rfl⟩;go_wp2_with fail
   refine FQ.o.mono ?_;rintro e uw⟨aoP,Yr,rfl,Qr,iq,ss⟩;have sy:=aaI.trans ss;have aoQ:=aa (jL _ 1 _ _ uw Qr iq (by omega));have aoR:=aa (jL _ 1 _ _ uw LF.o (show Holds uw (AU++(Yr++(iD++(ti++DC))))from iq.p) (by omega));have aoS:=aa (jL _ 1 _ _ uw Ov.o (show Holds uw (ti++(Yr++(iD++(AU++DC))))from iq.p) (by omega));have Bj:=aa (eN uw (ao W) (vv.o uw (Yr++(iD++(AU++ti))) iq.p));clear Qr iq ss aaI tX FQ;go_wp2_with fail
   refine aoQ.o.mono ?_;rintro e wx⟨rfl,rfl⟩;go_wp2_with fail
   refine aoR.o.mono ?_;rintro e wx⟨rfl,rfl⟩;go_wp2_with fail
   refine aoS.o.mono ?_;rintro e wx⟨rfl,rfl⟩;go_wp2_with fail
   refine(Hf _).mono ?_;rintro e wx⟨rfl,rfl⟩;go_wp2_with fail
   refine(Eh _).mono ?_;rintro e wx⟨rfl,rfl⟩;go_wp2_with fail
   refine(KY _).mono ?_;rintro e wx⟨rfl,rfl⟩;go_wp2_with fail
   refine(K0 _).mono ?_;rintro e wx⟨rfl,rfl⟩;go_wp2_with fail
   refine Bj.o.mono ?_;rintro e wa⟨rfl,fU,vC⟩;have FT:=sy.trans vC;clear Bj vC sy;go_wp2_with fail
   go_ret;exact⟨rfl,fU,FT⟩
end Go.Proofs.YtalnifciidblkaaGreatDoor
