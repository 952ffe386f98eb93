/-
  Lemmas.
-/
import Derived.Test.YtalnifciidblkaaGreatDoorHL17T
namespace Go.Proofs.YtalnifciidblkaaGreatDoor
open _root_.Go.Proofs.Tryz
open Go.RowKit
set_option linter.unusedSimpArgs false
set_option linter.unusedVariables false
set_option maxRecDepth 100000
set_option maxHeartbeats 8000000
section
variable{s s':SM}{c c':CM}{nm:List UInt8}{N M:Int}{l l':LM}
theorem gy.seq(S:gy nm N l s c){n:Int}{h:Hd}(hh:aq s.hs n=some h):h.s<=l.last:=by
 obtain⟨es,bK,nps,q0,I⟩:=S.inv;obtain⟨m,rfl,hm,d,hd⟩:=I.sin.cont.has hh;exact(I.kX.le m d h hm hd).1
theorem gy.seq'(S:gy nm N l s c)(S':gy nm M l' s' c')(r:Reads c c'){n:Int}{h:Hd}(hh:aq s.hs n=some h):h.s<=l'.last:=by
 obtain⟨es,bK,nps,q0,I⟩:=S.inv;obtain⟨m,rfl,hm,d,hd⟩:=I.sin.cont.has hh;obtain⟨nk,acv,Mk,q0',I'⟩:=S'.inv;have e:c'.vN m=some (d,h):=by rw[<-hd];exact r.vN m
 have uy:m<s'.B*s'.P:=by rw[S'.F5];rw[S.F5]at hm;exact hm
 exact(I'.kX.le m d h uy e).1
theorem gy.BU(S:gy nm N l s c):0<=l.last:=by
 obtain⟨es,bK,nps,q0,I⟩:=S.inv;exact I.kX.l0
theorem gy.yk(S:gy nm N l s c):aV s c∧oV s.P s.y:=by
 obtain⟨es,bK,nps,q0,I⟩:=S.inv;exact⟨I.sin.cont,I.sin.cont.vu⟩
theorem gy.ajL(S:gy nm N l s c)(h:Jv l s):(aC s).length=l.ad.length+l.T.length:=by
 obtain⟨D,hD,hl⟩:=h.F4 S;rw[yH S.yk.1,C7,S.F5,S.count hD,hl]
end
theorem N4{v:Value}{zs:List Int}{H Fr:HL}{w:World}(h:aZ v zs H)(hH:Holds w (H++Fr)){j:Nat}(hj:j<zs.length):
  ∃g cap,v=.slice (some ⟨g,0,none⟩) zs.length cap∧zs.length<=cap∧cap<=maxLen∧∀(wx:World) (F:HL),Holds wx (H++F)->wx.cell? ⟨g,j,none⟩=some (.int .i64 zs[j]):=by
 obtain⟨g,cap,hv,h1,h2,_⟩:=h.cell hH hj;refine⟨g,cap,hv,h1,h2,fun wx F hx=>?_⟩;obtain⟨g',L7,xD,_,_,_,h4,_⟩:=h.cell hx hj;rw[hv]at xD;injection xD with e1;injection e1 with e1;injection e1 with e1;rw[e1];exact h4
theorem mH(va vb:Value)(xs:List az)(w:World)(ha:eC w va xs)(hb:eC w vb xs):Calls Tryz.prog 17 #[va,vb] w (zQ w (.bool true)):=by
 have h:=rr va vb xs xs w ha hb;rwa[decide_eq_true rfl]at h
theorem N5{v:Value}{es:List az}{H Fr:HL}{w:World}(h:aP v es H)(hH:Holds w (H++Fr)){j:Nat}(hj:j<es.length):
  ∃g o cap,v=.slice (some ⟨g,o,none⟩) es.length cap∧es.length<=cap∧cap<=maxLen∧∀(wx:World) (F:HL),Holds wx (H++F)->wM wx g (o+j*4) es[j]:=by
 obtain⟨A,cap,hv,h1,h2,h3⟩:=(h.at_ hH).cells;obtain⟨g,o,rfl,_⟩:=h3 (by omega);refine⟨g,o,cap,hv,h1,h2,fun wx F hx=>?_⟩;obtain⟨A',L7,xD,_,_,Oy⟩:=(h.at_ hx).cells;obtain⟨g',o',rfl,h4⟩:=Oy (by omega);rw[hv]at xD;injection xD with e1;injection e1 with e1;injection e1 with e1 e2;rw[e1,e2];exact h4 j hj
def aiz(n:Nat)(F:HL)(W:World)(iv:Value)(wr:World):Prop:=∃k:Nat,k<=n∧iv=.int .i64 k∧Holds wr F∧af W wr
def aiA(L:List Int)(s:SM)(F:HL)(W:World)(mx iv:Value)(wr:World):Prop:=
 ∃(k:Nat) (x:Int),k<=L.length∧iv=.int .i64 k∧mx=.int .i64 x∧(x=0∨∃n h,aq s.hs n=some h∧h.s=x)∧Holds wr F∧af W wr
theorem Ih(av:Value)(l:List sB)(W:World)(hav:EE W av l∧∀x∈l,x.ok):Calls Tryz.prog 6 #[av] W (cM (.bool true) W (ao W)):=by
 have hH:=holds_all W;have k1:=oF;have k2:=nil_eq;have k3:=cS;have k4:=cC;have HAV:=aa (FI hav.1);have lR:=aa hav.2;obtain⟨⟨_,A2,Zz,rfl,_,_,_⟩,_⟩:=hav;have jD:=af.refl W;go_enter func6,ntmps6;by_cases h24:20<l.length
 ·have Qp:(20:Int)<(l.length:Int):=by omega
  go_wp2_with fail
  refine(eN _ _ hH).mono ?_;rintro e wa⟨rfl,fU,vC⟩;go_wp2_with fail
  go_ret;exact⟨rfl,fU,vC⟩
 have Qp:¬(20:Int)<(l.length:Int):=by omega
 have HN:=aa (oN W _ hH);clear hH;go_wp2_with fail
 refine HN.o.mono ?_;rintro e w2⟨dv,H0,rfl,⟨cb,g,cap,mv,rfl,jQ⟩,aB,aX⟩;have jQ:ai cb g cap mv (CM.new 16 4 128 [] []) H0:=jQ;have cY:=jD.trans aX;obtain⟨qM,pK,rT,gF,ju,ir⟩:=pA [];have qI:=aa (nT jQ aB (mA [] []) rfl (by rw[ir];omega));have tS:bW (CM.new 16 4 128 [] [])=((bW (CM.new 16 4 128 [] [])).1,CM.new 16 4 128 [] [],0):=mG qM;have jq:=fO (nm:=aR) eI pK rT gF ju (fun n _=>nB [] [] n);have yT:=zH (nm:=aR) (N:=63) eI pK rT (Kv (fun m hm=>absurd hm (by simp))) (by rw[ir];omega) gF ju (fun n _=>nB [] [] n) (FJ []);generalize(bW (CM.new 16 4 128 [] [])).1=s0 at*;generalize CM.new 16 4 128 [] []=c0 at*;rw[tS]at qI;have xJ:eT s0 (aC s0)=0∧dp s0 (aC s0)=0:=by
  rw[cL pK,jq.1];exact⟨rfl,rfl⟩
 have rI:=aa (aS yT jq);have mO:=aa (aS pK (aS rT (aS gF (aS ir xJ))));clear jQ aB aX HN qM tS jq pK rT gF ju ir xJ yT jD;go_wp2_with fail
 refine qI.o.mono ?_;rintro e w3 (⟨h0,sb,Hs,Hc,rfl,hs,cz,aD,bj⟩|⟨h0,_⟩);rotate_left
 ·exact absurd rfl h0
 dsimp only at hs cz;have cf:=cY.trans bj;have xB:=aa (show Calls Tryz.prog 12 #[.pointer (some ⟨sb,0,none⟩),.string {data:=#[115,104,101,108,102]}] w3 (zh sb cb g cap mv (aL aR s0 c0) w3 (ao W))from
  iI aR eI hs cz aD mO.o.1 mO.o.2.1 (by rw[mO.o.2.2.1.1];omega) (by rw[mO.o.2.2.2.1];omega) (by rw[mO.o.2.2.2.2.1];omega) (by rw[mO.o.2.2.2.2.2];omega))
 have fZ:=rI.o.2.2.2.2.2;have jj:=rI.o.1;generalize aL aR s0 c0=r at*;have ir:=mO.o.2.2.2.1;have uz:gy aR 1 r.1 r.2.1 r.2.2.1∧r.1.T=[]∧r.2.2.1.ops<=2400:=by
  rcases fZ.2 with⟨_,a,b,_⟩|h|⟨h,_⟩
  ·exact⟨a,b,by have:=fZ.1;omega⟩
  ·exact absurd (show r.2.2.2=7 from h) (by rw[jj];decide)
  ·exact absurd (show r.2.2.2=4 from h) (by rw[jj];decide)
 have jH:=aa uz;have zI:=aa jj;clear hs cz aD bj h0 qI cY fZ jj ir uz;go_wp2_with fail
 refine xB.o.mono ?_;rintro e w5⟨jl,pZ,lu,fS,dJ,(⟨h0,b,H5,rfl,ki,bg⟩|⟨h0,ve,He,rfl,he,bg⟩)⟩;rotate_left
 ·exact absurd zI.o h0
 have eY:=cf.trans dJ;have pL:=aa ki;have xz:=aa lu;have tN:=aa fS;have bM:=bg.alloc (.cells #[.slice none 0 0] 70);have cJ:=eY.alloc (.cells #[.slice none 0 0] 70);clear ki lu fS bg dJ rI cf eY xB h0 mO zI;go_upto_region 11 with fail
 have dZ:=bM.alloc (tQ w5.heap.size aR);have iZ:=cJ.alloc (tQ w5.heap.size aR);rw[World.size_alloc]at dZ;rw[show Obj.cells ((Tryz.zeroCells74.setIfInBounds 0 (.pointer (some ⟨w5.heap.size,0,none⟩))).setIfInBounds 2 (.string {data:=#[115,104,101,108,102]})) 74=tQ w5.heap.size aR by rw[GU];rfl];generalize(w5.alloc (.cells #[.slice none 0 0] 70)).alloc (tQ w5.heap.size aR)=w6 at*;have bD:Yo l.length (w5.heap.size+1) cb g cap mv W (.pointer (some ⟨b,0,none⟩)) (.int .i64 0) w6:=
  ⟨0,b,sb,r.1,r.2.1,r.2.2.1,[],_,H5,jl,pZ,by omega,rfl,rfl,jH.o.1,by rw[jH.o.2.1];exact GV (w:=w6) (F:=[]),by have:=jH.o.2.2;omega,pL.o,xz.o,tN.o,
   (show Holds w6 (((w5.heap.size+1,tQ w5.heap.size aR)::((w5.heap.size,.cells #[.slice none 0 0] 70)::([]++[])))++(H5++(jl++(pZ++ao W))))from dZ),iZ⟩
 generalize w5.heap.size+1=mb at*;clear bM cJ dZ iZ jH pL xz tN;go_wp2_with fail
 go_loopw [6,9] (fun gv iv wr=>Yo l.length mb cb g cap mv W gv iv wr) (fun _ i _=>l.length-(intOf i).toNat)
 case atStart=>exact bD
 case round=>
  clear bD;obtain⟨k,b1,sb1,l1,s1,c1,Ms,Hm,H1,kE,jJ,hk,rfl,rfl,hS,hm,im,iY,kU,jr,hH,hG⟩:=hrel;by_cases aG:k<l.length
  ·have Dn:(k:Int)<(l.length:Int):=by omega
   obtain⟨_,A3,c3,kS,_,_,cm⟩:=HAV.o wr hH.right.right.right.right;injection kS with Mu Uw Mv;subst Mu;subst Mv;clear Uw;obtain⟨b8,o8,rfl,bm⟩:=cm (by omega);obtain⟨x0,x1,x2,x3⟩:=FK bm aG;have hxa:=lR.o _ (cX aG);generalize l[k]=x at*;obtain⟨xd,xn,xa,xy⟩:=x;dsimp only at x0 x1 x2 x3;have TL:=aa (pE xd xn xa xy hS (by omega) hm iY kU jr hH (by omega) hxa);have HK:=aa (aS im (show(k:Int)<=20 by omega));clear bm cm hS hm iY kU jr hH im hxa;go_wp2_with fail
   refine TL.o.mono ?_;rintro e w7⟨b',ID,l',s',c',rV,tY,H',ke,cO,rfl,S0,uy,_,_,_,Ut,vh,vo,eG,gK,nD⟩;have WX:=hG.trans nD;have LZ:=aa (aS S0 uy);have TC:=aa vh;have WY:=aa vo;have HC':=aa eG;clear S0 uy vh vo eG nD hG TL x0 x1 x2 x3;go_wp2_with fail
   go_roundw
   case rel=>exact⟨k+1,b',ID,l',s',c',rV,tY,H',ke,cO,by omega,by go_num,rfl,LZ.o.1.mono (by omega),LZ.o.2,by have:=HK.o.1;omega,TC.o,WY.o,HC'.o,gK,WX⟩
   case measure=>simp[intOf];omega
  ·have Dn:¬(k:Int)<(l.length:Int):=by omega
   have iJ:=aa hS;have kV:=aa kU;have lS:=aa jr;have qR:=aa iY;have I7:=aa (aS im (show(k:Int)<=20 by omega));have Yp:=aa (zD iY (Fr:=Hm++(kE++(jJ++ao W))) hH.p);have AA:=aa (jz kU (Fr:=H1++(Hm++(jJ++ao W))) hH.p hS.yk.2);clear hS hm im iY kU jr hH;go_wp2_with fail
   refine Yp.o.mono ?_;rintro e wx⟨rfl,rfl⟩;go_wp2_with fail
   refine AA.o.mono ?_;rintro e w2'⟨nv,Hn,rfl,hn,hHn,y7⟩;have DQ:=aa (show∀n∈aC s1,0<=n∧n<=9223372036854775807 from fun n hn=>by
    rw[cL iJ.o.yk.1]at hn;obtain⟨j,hj,rfl⟩:=List.mem_map.1 hn;have:=(ig.1 hj).1;rw[iJ.o.F5]at this;omega)
   have HLE:=aa (show(aC s1).length<=64 by
    rw[cL iJ.o.yk.1,bY];have h1:(bc s1).length<=s1.B*s1.P:=by unfold bc;have:=mU (kW s1) (List.range (s1.B*s1.P));rwa[fP]at this
    rw[iJ.o.F5]at h1;exact h1)
   have Dl:=aa fun(n:Int) (wx:World) (F:HL) (hx:Holds wx (kE++F)) (h0:0<=n) (h1:n<=9223372036854775807)=>qq (w:=wx) (Fr:=F) n kV.o hx h0 h1;generalize hLe:aC s1=L at*;have tX:=aa hn;obtain⟨A,cn,rfl⟩:=hn.val;have kp:aiA L s1 (H1++(Hn++(Hm++(kE++(jJ++ao W))))) W (.int .i64 0) (.int .i64 0) w2':=⟨0,0,by omega,rfl,rfl,aQ rfl,hHn.p,hG.trans y7⟩;clear hn hHn y7 AA hG hLe;go_wp2_with fail
   go_loopw [11,13] (fun mx iv wr=>aiA L s1 (H1++(Hn++(Hm++(kE++(jJ++ao W))))) W mx iv wr) (fun _ i _=>L.length-(intOf i).toNat)
   case atStart=>exact kp
   case round=>
    clear kp;obtain⟨q,mx,hq,rfl,rfl,FZ,hH,hG⟩:=hrel;by_cases xJ:q<L.length
    ·have XG:(q:Int)<(L.length:Int):=by omega
     obtain⟨nb,L7,hv,_,_,vp⟩:=N4 tX.o (Fr:=H1++(Hm++(kE++(jJ++ao W)))) hH.p xJ;injection hv with e1 e2 e3;subst e1 e3;clear e2;have qG:=DQ.o _ (cX xJ);have HQQ:=aa (aS hq (show(L.length:Int)<=64 by have:=HLE.o;omega));obtain⟨_,_,W6⟩:=qR.o.cells;generalize L[q]=n at*;have P3:=aa (fun(wx:World) (F:HL) (hx:Holds wx (H1++(Hn++F)))=>show wx.cell? ⟨b1,1,none⟩=some (.pointer (some ⟨sb1,0,none⟩))∧wx.cell? ⟨nb,q,none⟩=some (.int .i64 n)from
      ⟨(W6 wx _ hx).2.1,vp wx _ (show Holds wx (Hn++(H1++F))from hx.p)⟩)
     have vi:=aa (fun(wx:World) (F:HL) (hx:Holds wx (kE++F))=>Dl.o n wx F hx qG.1 qG.2);have ZA:=aa (show∀d z,aq s1.hs n=z->z.getD Hd.zero=d->max mx d.s=0∨∃n h,aq s1.hs n=some h∧h.s=max mx d.s from fun d z hz hd=>by
      rcases Int.le_total d.s mx with h|h
      ·rw[Int.max_eq_left h];exact FZ
      ·rw[Int.max_eq_right h];cases z with
       |none=>left;rw[<-hd];rfl
       |some x=>right;refine⟨n,x,hz,?_⟩;rw[<-hd];rfl)
     generalize aq s1.hs n=z at*;have ZA:=aa (ZA.o _ z rfl rfl);generalize hde:z.getD Hd.zero=d at*;generalize z.isSome=zb at*;obtain⟨cZ,ez,dy,dP⟩:=d;simp only[Hd.agg,Hd.cells]at vi;dsimp only at ZA;clear vp W6 qG FZ hde;go_upto_region 23 with fail
     refine aF (fun wx=>wx.cell? ⟨b1,1,none⟩=some (.pointer (some ⟨sb1,0,none⟩))∧wx.cell? ⟨nb,q,none⟩=some (.int .i64 n)) 13 (by kernel_rfl) (fun w1 hd=>P3.o _ _ (hH.dr hd)) (fun w1 hd hs=>?_);have ax:=hH.dr hd;have gY:=hG.trans (af.dr hd);clear hd hH hG;refine ji 0 ?_;refine lK 1 (some 92) rfl rfl (by kernel_rfl) (fun _ _ _ h=>h) (by rfl) hs (fun wx=>by go_simp) (fun wx hx=>tH wx hx.1) ?_;simp only[pt,sA,sS,sZ];refine dY 2 3 4 5 ?_;refine Ew 6 10 rfl rfl (by kernel_rfl) (fun K hK=>?_) (fun K hK=>?_);have⟨x0,x1⟩:=hs;go_simp;refine(vi.o w1 (H1++(Hn++(Hm++(jJ++ao W)))) ax.p).mono ?_;rintro e w4 ⟨rfl,aU,bV⟩;have bg:Holds w4 (H1++(Hn++(Hm++(kE++(jJ++ao W))))):=aU.p;have eY:=gY.trans bV;clear x0 x1;refine hK _ _ (P3.o _ _ bg) (fun _=>?_);clear hK K hs;rename_i hs;refine Ag 7 8 9 ?_;refine qh 10 rfl (by kernel_rfl) (fun K hK=>?_);have⟨x0,x1⟩:=hs;go_simp;clear x0 x1;refine hK _ _ (P3.o _ _ (show Holds (w4.alloc _) (H1++(Hn++((w4.heap.size,.cells #[.int .i64 0,.int .u64 0,.int .i64 0,.int .i64 0] 59)::(Hm++(kE++(jJ++ao W))))))from(bg.alloc _).p)) (fun _=>?_);clear hK K hs;rename_i hs;have hZ:Holds (w4.alloc (.cells #[.int .i64 0,.int .u64 0,.int .i64 0,.int .i64 0] 59)) ((w4.heap.size,(.cells #[.int .i64 0,.int .u64 0,.int .i64 0,.int .i64 0] 59))::(H1++(Hn++(Hm++(kE++(jJ++ao W)))))):=bg.alloc (.cells #[.int .i64 0,.int .u64 0,.int .i64 0,.int .i64 0] 59);have lT:=eY.alloc (.cells #[.int .i64 0,.int .u64 0,.int .i64 0,.int .i64 0] 59);clear bg eY aU bV ax gY;generalize w4.alloc (.cells #[.int .i64 0,.int .u64 0,.int .i64 0,.int .i64 0] 59)=wz at*;generalize w4.heap.size=gz at*;rotate_left;have⟨x0,x1⟩:=hs;go_simp;clear x0 x1;refine hK _ _ (P3.o _ _ (show Holds (w1.alloc _) (H1++(Hn++((w1.heap.size,(.cells #[.int .i64 0,.int .u64 0,.int .i64 0,.int .i64 0] 59))::(Hm++(kE++(jJ++ao W))))))from(ax.alloc _).p)) (fun _=>?_);clear hK K hs;rename_i hs;refine qh 6 rfl (by kernel_rfl) (fun K hK=>?_);have⟨x0,x1⟩:=hs;go_simp;refine(vi.o (w1.alloc (.cells #[.int .i64 0,.int .u64 0,.int .i64 0,.int .i64 0] 59)) ((w1.heap.size,(.cells #[.int .i64 0,.int .u64 0,.int .i64 0,.int .i64 0] 59))::(H1++(Hn++(Hm++(jJ++ao W))))) (ax.alloc (.cells #[.int .i64 0,.int .u64 0,.int .i64 0,.int .i64 0] 59)).p).mono ?_;rintro e w4 ⟨rfl,aU,bV⟩;have bg:Holds w4 ((w1.heap.size,(.cells #[.int .i64 0,.int .u64 0,.int .i64 0,.int .i64 0] 59))::(H1++(Hn++(Hm++(kE++(jJ++ao W)))))):=aU.p;have eY:=(gY.alloc (.cells #[.int .i64 0,.int .u64 0,.int .i64 0,.int .i64 0] 59)).trans bV;clear aU bV ax gY;clear x0 x1;refine hK _ _ (P3.o _ _ (show Holds w4 (H1++(Hn++((w1.heap.size,(.cells #[.int .i64 0,.int .u64 0,.int .i64 0,.int .i64 0] 59))::(Hm++(kE++(jJ++ao W))))))from bg.p)) (fun _=>?_);clear hK K hs;rename_i hs;refine Ag 7 8 9 ?_;have hZ:=bg;have lT:=eY;clear bg eY;generalize w1.heap.size=gz at*;generalize w4=wz at*;rotate_left;all_goals
      refine Zm 11 fun K hK=>?_;have hz4:=hZ.hJ;obtain⟨r0,r1,r2,r3,f0,f1,f2,f3⟩:=hz4;have BJ:=hZ.aG;go_simp;clear r0 r1 r2 r3 f0 f1 f2 f3 BJ;have hY:Holds ((((wz.setCell ⟨gz,0,none⟩ (.int .i64 cZ)).setCell ⟨gz,1,none⟩ (.int .u64 ez)).setCell ⟨gz,2,none⟩ (.int .i64 dy)).setCell ⟨gz,3,none⟩ (.int .i64 dP)) ((gz,(.cells #[.int .i64 cZ,.int .u64 ez,.int .i64 dy,.int .i64 dP] 59))::(H1++(Hn++(Hm++(kE++(jJ++ao W)))))):=(((hZ.set 0 (.int .i64 cZ)).set 1 (.int .u64 ez)).set 2 (.int .i64 dy)).set 3 (.int .i64 dP);have hgY:=(((lT.setCell ⟨gz,0,none⟩ (.int .i64 cZ)).setCell ⟨gz,1,none⟩ (.int .u64 ez)).setCell ⟨gz,2,none⟩ (.int .i64 dy)).setCell ⟨gz,3,none⟩ (.int .i64 dP);clear hZ lT;generalize((((wz.setCell ⟨gz,0,none⟩ (.int .i64 cZ)).setCell ⟨gz,1,none⟩ (.int .u64 ez)).setCell ⟨gz,2,none⟩ (.int .i64 dy)).setCell ⟨gz,3,none⟩ (.int .i64 dP))=wy at*;refine hK _ _ (P3.o _ _ (show Holds _ (H1++(Hn++((gz,(.cells #[.int .i64 cZ,.int .u64 ez,.int .i64 dy,.int .i64 dP] 59))::(Hm++(kE++(jJ++ao W))))))from hY.p)) (fun _=>?_);clear hK K hs;rename_i hs;refine ji 12 ?_;refine Ze ?_;obtain⟨-,-,r2,-⟩:=hY.hJ;have ZA:=aa ZA.o;have DN:Holds wy (H1++(Hn++(Hm++(kE++(jJ++ao W))))):=hY.tail;clear hY;have hq6:(q:Int)<64:=by have:=HQQ.o.2;omega
      go_wp2_with fail
      go_roundw
      case rel=>exact⟨q+1,max mx dy,by omega,rfl,rfl,ZA.o,DN,hgY⟩
      case measure=>simp[intOf];omega
    ·have XG:¬(q:Int)<(L.length:Int):=by omega
     have DF:=iJ.o.BU;have hlN:=iJ.o.last;have aiB:mx<=l1.last:=by
      rcases FZ with h|⟨n,x,h1,h2⟩
      ·omega
      ·have:=iJ.o.seq h1;omega
     have hkN:l1.last<=100000:=by have:=I7.o.2;omega
     have OJ:=aa (dg qR.o (Fr:=Hn++(Hm++(kE++(jJ++ao W)))) hH DF (by omega));have HMB:=aa (aS FZ (aS aiB (aS DF hkN)));clear hH FZ aiB DF hlN hkN;go_wp2_with fail
     refine OJ.o.mono ?_;rintro e w8⟨rfl,H8,Ow,cT,ka⟩;have iT:=hG.trans ka;have aiC:=aa (dg Ow cT (by show 0<=l1.last+1;have:=HMB.o.2.2.1;omega) (by show l1.last+1<=1000000000000000;have:=HMB.o.2.2.2;omega));clear Ow cT ka hG OJ;go_wp2_with fail
     refine aiC.o.mono ?_;rintro e w9⟨rfl,H9,IZ,di,jG⟩;have iU:=iT.trans jG;have IC:ahead c1<25:=by have:=sK c1;have:=lS.o.o7.2.2.2.2.2.2.1;omega
     have AB:=aa (ni iJ.o.toD lS.o (show Holds w9 (jJ++(H9++ao W))from di.p) IC (by have:=I7.o;omega));have ZT:=aa IZ;clear IZ di jG iT aiC IC;go_wp2_with fail
     refine AB.o.mono ?_;rintro e w5⟨b5,XI,l5,s5,c5,H5,jl,pZ,rfl,S5,⟨⟨TH,hp5,Uy⟩,Mn⟩,ou,Gs,ki,lu,fS,bg,dJ⟩;have eY:=iU.trans dJ;have aiD:mx<=l5.last:=by
      rcases HMB.o.1 with h|⟨n,x,h1,h2⟩
      ·have:=S5.BU;omega
      ·have:=iJ.o.seq' S5 ou h1;omega
     have jH:=aa (aS S5 (aS Mn (aS TH (aS hp5 Uy))));have pL:=aa ki;have xz:=aa lu;have HM5:=aa aiD;clear S5 Mn TH hp5 Uy ki lu fS ou Gs iU dJ AB aiD;have F3:=aa (cD pL.o bg);clear bg;go_wp2_with fail
     refine F3.o.mono ?_;rintro e w6⟨v6,ti,rfl,zO,bC,eJ⟩;have jn:=eY.trans eJ;have Uz:=aa (cD ZT.o (Fr:=ti++(H5++(jl++ao W))) bC.p);have Ov:=aa zO;clear zO bC eJ eY F3;go_wp2_with fail
     refine Uz.o.mono ?_;rintro e w7⟨v7,Z0,rfl,TM,cA,jk⟩;have fx:=jn.trans jk;have kJ:=mH v6 v7 l1.T w7 (by have h:=Ov.o.at_ (Fr:=Z0++(H9++(H5++(jl++ao W)))) (w:=w7) cA.p;rw[jH.o.2.2.1]at h;exact h) (TM.at_ cA);have pH:=aa kJ;have HH7:=aa (show Holds w7 (H9++(H5++(jl++ao W)))from cA.p);clear TM cA jk jn Uz kJ;go_wp2_with fail
     refine pH.o.mono ?_;rintro e w8⟨rfl,q8,rfl⟩;have cT:=HH7.o.drewN q8;have iT:=fx.drewN q8;generalize w7.drewN q8=w8 at*;have HA1:=aa (show Calls Tryz.prog 33 #[.pointer (some ⟨b5,0,none⟩)] w8 (fun e w'=>e=.returned (.int .i64 l1.gen)∧w8=w') by
      have h:=lj pL.o (w:=w8) (Fr:=H9++(jl++ao W)) cT.p;rwa[jH.o.2.2.2.2]at h)
     have HA2:=aa (show Calls Tryz.prog 33 #[.pointer (some ⟨b1,0,none⟩)] w8 (fun e w'=>e=.returned (.int .i64 l1.gen)∧w8=w') by have h:=lj ZT.o (w:=w8) (Fr:=H5++(jl++ao W)) cT;exact h);have HA3:=aa (show Calls Tryz.prog 34 #[.pointer (some ⟨b5,0,none⟩)] w8 (fun e w'=>e=.returned (.int .i64 (l1.ad.length:Int))∧w8=w') by
      have h:=lp pL.o (w:=w8) (Fr:=H9++(jl++ao W)) cT.p;rwa[jH.o.2.2.2.1]at h)
     have HA4:=aa (show Calls Tryz.prog 34 #[.pointer (some ⟨b1,0,none⟩)] w8 (fun e w'=>e=.returned (.int .i64 (l1.ad.length:Int))∧w8=w') by have h:=lp ZT.o (w:=w8) (Fr:=H5++(jl++ao W)) cT;exact h);have HA5:=aa (show Calls Tryz.prog 22 #[.pointer (some ⟨b5,0,none⟩)] w8 (fun e w'=>e=.returned (.string {data:=#[115,104,101,108,102]})∧w8=w') by
      have h:=zC pL.o (w:=w8) (Fr:=H9++(jl++ao W)) cT.p;rwa[jH.o.1.name]at h)
     have hkN:l5.last<=100000:=by have:=jH.o.1.last;have:=I7.o.2;omega
     have HA6:=aa (dg pL.o (w:=w8) (Fr:=H9++(jl++ao W)) cT.p jH.o.1.BU (by omega));have jj:¬l1.last+1<=mx:=by have:=HMB.o.2.1;omega
     have fZ:¬l1.last+1+1<=l1.last+1:=by omega
     have jF:¬l5.last+1<=mx:=by have:=HM5.o;omega
     have pG:(l1.gen !=l1.gen)=false:=by simp
     have zM:((l1.ad.length:Int)!=(l1.ad.length:Int))=false:=by simp
     have Ov:=aa Ov.o;clear cT fx HH7 pH;go_wp2_with fail
     refine HA1.o.mono ?_;rintro e wx⟨rfl,rfl⟩;go_wp2_with fail
     refine HA2.o.mono ?_;rintro e wx⟨rfl,rfl⟩;go_wp2_with fail
     refine HA3.o.mono ?_;rintro e wx⟨rfl,rfl⟩;go_wp2_with fail
     refine HA4.o.mono ?_;rintro e wx⟨rfl,rfl⟩;go_wp2_with fail
     refine HA5.o.mono ?_;rintro e wx⟨rfl,rfl⟩;go_wp2_with fail
     refine HA6.o.mono ?_;rintro e w9⟨rfl,iC,jX,dU,gj⟩;have ia:=iT.trans gj;clear HA1 HA2 HA3 HA4 HA5 HA6 gj iT Ov hkN;have aiE:=aa (cD jX dU);have oZ:=aa jX;clear jX dU;go_wp2_with fail
     refine aiE.o.mono ?_;rintro e lQ⟨v10,iD,rfl,kq,iq,ss⟩;clear jj fZ jF pG zM;have sy:=ia.trans ss;have Yp:=aa (zD oZ.o (w:=lQ) (Fr:=iD++(H9++(jl++ao W))) iq.p);have AA:=aa (jz xz.o (w:=lQ) (Fr:=iD++(iC++(H9++ao W))) iq.p jH.o.1.yk.2);have ac7:=aa (show aP v10 l5.T iD from kq);clear kq iq ss ia aiE;go_wp2_with fail
     refine Yp.o.mono ?_;rintro e wx⟨rfl,rfl⟩;go_wp2_with fail
     refine AA.o.mono ?_;rintro e uw⟨nv,avk,rfl,aiF,nQ,BI⟩;have xW:=sy.trans BI;obtain⟨A11,c11,rfl⟩:=aiF.val;obtain⟨Zu,Zv,rfl⟩:=ac7.o.val;have HPA:=aa (show Calls Tryz.prog 34 #[.pointer (some ⟨b5,0,none⟩)] uw (fun e w'=>e=.returned (.int .i64 (l5.ad.length:Int))∧uw=w') by have h:=lp oZ.o (w:=uw) (Fr:=jl++(iD++(H9++ao W))) nQ.p;exact h);have qP:=jH.o.1.ajL jH.o.2.1;rw[qP];have aoL:(l5.ad.length:Int)+(l5.T.length:Int)<=64:=by
      have:(aC s5).length<=64:=by
       rw[cL jH.o.1.yk.1,bY];have h1:(bc s5).length<=s5.B*s5.P:=by unfold bc;have:=mU (kW s5) (List.range (s5.B*s5.P));rwa[fP]at this
       rw[jH.o.1.F5]at h1;exact h1
      omega
     have OE:Holds uw (iC++(jl++(iD++(H9++ao W)))):=nQ.p;clear aiF nQ BI sy AA Yp qP;go_wp2_with fail
     refine HPA.o.mono ?_;rintro e wx⟨rfl,rfl⟩;go_wp2_with fail
     have BB:aiz l5.T.length (iC++(jl++(iD++(H9++ao W)))) W (.int .i64 0) uw:=⟨0,by omega,rfl,OE,xW⟩;have IV:=aa (show l5.T.length<=64 by omega);have aoM:=aa fun(n:Int) (wx:World) (F:HL) (hx:Holds wx (jl++F)) (h0:0<=n) (h1:n<=9223372036854775807)=>qq (w:=wx) (Fr:=F) n xz.o hx h0 h1;clear OE xW HPA aoL Dl HMB HM5 DQ HLE tX;go_loopw [21] (fun iv wr=>aiz l5.T.length (iC++(jl++(iD++(H9++ao W)))) W iv wr) (fun i _=>l5.T.length-(intOf i).toNat)
     case atStart=>exact BB
     case round=>
      clear BB;obtain⟨j,hj,rfl,hH,hG⟩:=hrel;by_cases ZH:j<l5.T.length
      ·have I6:(j:Int)<(l5.T.length:Int):=by omega
       have avl:(j:Int)<64:=by have:=IV.o;omega
       obtain⟨eb,eo,L7,hv,_,_,hec⟩:=N5 ac7.o (Fr:=iC++(jl++(H9++ao W))) hH.p ZH;injection hv with e1 e2 e3;subst e1 e3;clear e2;have oY:=cX ZH;obtain⟨es5,aim,ain,q5,I5⟩:=jH.o.1.inv;have hfd:=yI I5.lA.inc oY;obtain⟨p,hd,hpe,nV,-,-⟩:=jH.o.1.F4 _ oY;have Jw:p<64:=by
        obtain⟨m,e,hm,_⟩:=I5.sin.cont.has nV;rw[jH.o.1.F5]at hm;omega
       obtain⟨_,_,W6⟩:=oZ.o.cells;have PZ:=aa (fun(wx:World) (F:HL) (hx:Holds wx (iC++F))=>show Calls Tryz.prog 19 #[.pointer (some ⟨b5,0,none⟩),.int .u64 l5.T[j].addr] wx (cM (mo (some l5.T[j])) wx (iC++F)) by
        have h:=NC (w:=wx) (Fr:=F) l5.T[j].addr oZ.o hx;rw[show eL l5.T[j].addr (show List az from l5.T)=some l5.T[j]from hfd]at h;exact h)
       have vi:=aa (fun(wx:World) (F:HL) (hx:Holds wx (jl++F))=>show Calls Tryz.prog 32 #[.pointer (some ⟨XI,0,none⟩),.int .i64 l5.T[j].aW] wx (cM (.tuple #[hd.agg,.bool true]) wx (jl++F)) by
        have h:=aoM.o (p:Int) wx F hx (by omega) (by omega);rw[nV]at h;rw[hpe];exact h)
       generalize l5.T[j]=en at*;obtain⟨ea,ep,ed,es⟩:=en;obtain⟨cZ,ez,dy,dP⟩:=hd;simp only[Hd.agg,Hd.cells]at vi;simp only[mo,Option.getD_some,Option.isSome_some,az.agg]at PZ;have HEC:=aa (fun(wx:World) (F:HL) (hx:Holds wx (iD++F))=>show wx.cell? ⟨eb,eo+j*4,none⟩=some (.int .u64 ea)∧wx.cell? ⟨eb,eo+j*4+1,none⟩=some (.int .i64 ep)∧wx.cell? ⟨eb,eo+j*4+2,none⟩=some (.bool ed)∧wx.cell? ⟨eb,eo+j*4+3,none⟩=some (.int .i64 es)from hec wx F hx);have HLC:=aa (fun(wx:World) (F:HL) (hx:Holds wx (iC++F))=>(W6 wx F hx).2.1);clear hec oY I5 hfd hpe nV Jw W6;have x0:=(HEC.o wr (iC++(jl++(H9++ao W))) hH.p).1;go_wp2_with fail
       refine(PZ.o wr (jl++(iD++(H9++ao W))) hH).mono ?_;rintro e w6'⟨rfl,aiG,aiH⟩;clear x0;have bM:=aiG.alloc (.cells #[.int .u64 ea,.int .i64 ep,.bool ed,.int .i64 es] 24);have cJ:=(hG.trans aiH).alloc (.cells #[.int .u64 ea,.int .i64 ep,.bool ed,.int .i64 es] 24);clear hH hG aiG aiH PZ;go_upto_region 37 with fail
       generalize w6'.alloc (.cells #[.int .u64 ea,.int .i64 ep,.bool ed,.int .i64 es] 24)=wa at*;generalize w6'.heap.size=ex at*;have dZ:Holds wa (iC++(iD++((ex,(.cells #[.int .u64 ea,.int .i64 ep,.bool ed,.int .i64 es] 24))::(jl++(H9++ao W))))):=bM.p;have P3:=aa (fun(wx:World) (F:HL) (hx:Holds wx (iC++(iD++F)))=>show wx.cell? ⟨b5,1,none⟩=some (.pointer (some ⟨XI,0,none⟩))∧wx.cell? ⟨eb,eo+j*4+1,none⟩=some (.int .i64 ep)from
        ⟨HLC.o wx _ hx,(HEC.o wx _ (show Holds wx (iD++(iC++F))from hx.p)).2.1⟩)
       clear bM;refine aF (fun wx=>wx.cell? ⟨b5,1,none⟩=some (.pointer (some ⟨XI,0,none⟩))∧wx.cell? ⟨eb,eo+j*4+1,none⟩=some (.int .i64 ep)) 14 (by kernel_rfl) (fun w1 hd=>P3.o _ _ (dZ.dr hd)) (fun w1 hd hs=>?_);have ax:=dZ.dr hd;have gY:=cJ.trans (af.dr hd);clear hd dZ cJ;refine ji 0 ?_;refine lK 1 (some 186) rfl rfl (by kernel_rfl) (fun _ _ _ h=>h) (by rfl) hs (fun wx=>by go_simp) (fun wx hx=>tH wx hx.1) ?_;simp only[pt,sA,sS,sZ];refine dY 2 3 4 5 ?_;refine ji 6 ?_;refine Ew 7 11 rfl rfl (by kernel_rfl) (fun K hK=>?_) (fun K hK=>?_);have⟨x0,x1⟩:=hs;go_simp;refine(vi.o w1 (iC++(iD++((ex,(.cells #[.int .u64 ea,.int .i64 ep,.bool ed,.int .i64 es] 24))::(H9++ao W)))) ax.p).mono ?_;rintro e w4 ⟨rfl,aU,bV⟩;have bg:Holds w4 (iC++(iD++((ex,(.cells #[.int .u64 ea,.int .i64 ep,.bool ed,.int .i64 es] 24))::(jl++(H9++ao W))))):=aU.p;have eY:=gY.trans bV;clear x0 x1;refine hK _ _ (P3.o _ _ bg) (fun _=>?_);clear hK K hs;rename_i hs;refine Ag 8 9 10 ?_;refine qh 11 rfl (by kernel_rfl) (fun K hK=>?_);have⟨x0,x1⟩:=hs;go_simp;clear x0 x1;refine hK _ _ (P3.o _ _ (show Holds (w4.alloc _) (iC++(iD++((w4.heap.size,(.cells #[.int .i64 0,.int .u64 0,.int .i64 0,.int .i64 0] 59))::((ex,(.cells #[.int .u64 ea,.int .i64 ep,.bool ed,.int .i64 es] 24))::(jl++(H9++ao W))))))from(bg.alloc _).p)) (fun _=>?_);clear hK K hs;rename_i hs;have hZ:Holds (w4.alloc (.cells #[.int .i64 0,.int .u64 0,.int .i64 0,.int .i64 0] 59)) ((w4.heap.size,(.cells #[.int .i64 0,.int .u64 0,.int .i64 0,.int .i64 0] 59))::(iC++(iD++((ex,(.cells #[.int .u64 ea,.int .i64 ep,.bool ed,.int .i64 es] 24))::(jl++(H9++ao W)))))):=bg.alloc (.cells #[.int .i64 0,.int .u64 0,.int .i64 0,.int .i64 0] 59);have lT:=eY.alloc (.cells #[.int .i64 0,.int .u64 0,.int .i64 0,.int .i64 0] 59);clear bg eY aU bV ax gY;generalize w4.alloc (.cells #[.int .i64 0,.int .u64 0,.int .i64 0,.int .i64 0] 59)=wz at*;generalize w4.heap.size=gz at*;rotate_left;have⟨x0,x1⟩:=hs;go_simp;clear x0 x1;refine hK _ _ (P3.o _ _ (show Holds (w1.alloc _) (iC++(iD++((w1.heap.size,(.cells #[.int .i64 0,.int .u64 0,.int .i64 0,.int .i64 0] 59))::((ex,(.cells #[.int .u64 ea,.int .i64 ep,.bool ed,.int .i64 es] 24))::(jl++(H9++ao W))))))from(ax.alloc _).p)) (fun _=>?_);clear hK K hs;rename_i hs;refine qh 7 rfl (by kernel_rfl) (fun K hK=>?_);have⟨x0,x1⟩:=hs;go_simp;refine(vi.o (w1.alloc (.cells #[.int .i64 0,.int .u64 0,.int .i64 0,.int .i64 0] 59)) ((w1.heap.size,(.cells #[.int .i64 0,.int .u64 0,.int .i64 0,.int .i64 0] 59))::(iC++(iD++((ex,(.cells #[.int .u64 ea,.int .i64 ep,.bool ed,.int .i64 es] 24))::(H9++ao W))))) (ax.alloc (.cells #[.int .i64 0,.int .u64 0,.int .i64 0,.int .i64 0] 59)).p).mono ?_;rintro e w4 ⟨rfl,aU,bV⟩;have bg:Holds w4 ((w1.heap.size,(.cells #[.int .i64 0,.int .u64 0,.int .i64 0,.int .i64 0] 59))::(iC++(iD++((ex,(.cells #[.int .u64 ea,.int .i64 ep,.bool ed,.int .i64 es] 24))::(jl++(H9++ao W)))))):=aU.p;have eY:=(gY.alloc (.cells #[.int .i64 0,.int .u64 0,.int .i64 0,.int .i64 0] 59)).trans bV;clear aU bV ax gY;clear x0 x1;refine hK _ _ (P3.o _ _ (show Holds w4 (iC++(iD++((w1.heap.size,(.cells #[.int .i64 0,.int .u64 0,.int .i64 0,.int .i64 0] 59))::((ex,(.cells #[.int .u64 ea,.int .i64 ep,.bool ed,.int .i64 es] 24))::(jl++(H9++ao W))))))from bg.p)) (fun _=>?_);clear hK K hs;rename_i hs;refine Ag 8 9 10 ?_;have hZ:=bg;have lT:=eY;clear bg eY;generalize w1.heap.size=gz at*;generalize w4=wz at*;rotate_left;all_goals
        refine Zm 12 fun K hK=>?_;have hz4:=hZ.hJ;obtain⟨r0,r1,r2,r3,f0,f1,f2,f3⟩:=hz4;have BJ:=hZ.aG;go_simp;clear r0 r1 r2 r3 f0 f1 f2 f3 BJ;have hY:Holds ((((wz.setCell ⟨gz,0,none⟩ (.int .i64 cZ)).setCell ⟨gz,1,none⟩ (.int .u64 ez)).setCell ⟨gz,2,none⟩ (.int .i64 dy)).setCell ⟨gz,3,none⟩ (.int .i64 dP)) ((gz,(.cells #[.int .i64 cZ,.int .u64 ez,.int .i64 dy,.int .i64 dP] 59))::(iC++(iD++((ex,(.cells #[.int .u64 ea,.int .i64 ep,.bool ed,.int .i64 es] 24))::(jl++(H9++ao W)))))):=(((hZ.set 0 (.int .i64 cZ)).set 1 (.int .u64 ez)).set 2 (.int .i64 dy)).set 3 (.int .i64 dP);have hgY:=(((lT.setCell ⟨gz,0,none⟩ (.int .i64 cZ)).setCell ⟨gz,1,none⟩ (.int .u64 ez)).setCell ⟨gz,2,none⟩ (.int .i64 dy)).setCell ⟨gz,3,none⟩ (.int .i64 dP);clear hZ lT;generalize((((wz.setCell ⟨gz,0,none⟩ (.int .i64 cZ)).setCell ⟨gz,1,none⟩ (.int .u64 ez)).setCell ⟨gz,2,none⟩ (.int .i64 dy)).setCell ⟨gz,3,none⟩ (.int .i64 dP))=wy at*;refine hK _ _ (P3.o _ _ (show Holds _ (iC++(iD++((gz,(.cells #[.int .i64 cZ,.int .u64 ez,.int .i64 dy,.int .i64 dP] 59))::((ex,(.cells #[.int .u64 ea,.int .i64 ep,.bool ed,.int .i64 es] 24))::(jl++(H9++ao W))))))from hY.p)) (fun _=>?_);clear hK K hs;rename_i hs;refine ji 13 ?_;refine Ze ?_;have oe:Holds wy (iC++(iD++((ex,(.cells #[.int .u64 ea,.int .i64 ep,.bool ed,.int .i64 es] 24))::(jl++(H9++ao W))))):=hY.tail;have HSG:=aa (fun(wx:World) (F:HL) (hx:Holds wx (iC++(iD++((ex,(.cells #[.int .u64 ea,.int .i64 ep,.bool ed,.int .i64 es] 24))::F))))=>show wx.cell? ⟨ex,0,none⟩=some (.int .u64 ea)∧wx.cell? ⟨ex,1,none⟩=some (.int .i64 ep)∧wx.cell? ⟨ex,2,none⟩=some (.bool ed)∧wx.cell? ⟨ex,3,none⟩=some (.int .i64 es)∧wx.cell? ⟨eb,eo+j*4,none⟩=some (.int .u64 ea)∧wx.cell? ⟨eb,eo+j*4+1,none⟩=some (.int .i64 ep)∧wx.cell? ⟨eb,eo+j*4+2,none⟩=some (.bool ed)∧wx.cell? ⟨eb,eo+j*4+3,none⟩=some (.int .i64 es)from by
         obtain⟨y0,y1,y2,y3,-⟩:=(show Holds wx ((ex,(.cells #[.int .u64 ea,.int .i64 ep,.bool ed,.int .i64 es] 24))::(iC++(iD++F)))from hx.p).hJ;obtain⟨z0,z1,z2,z3⟩:=HEC.o wx ((ex,(.cells #[.int .u64 ea,.int .i64 ep,.bool ed,.int .i64 es] 24))::(iC++F)) (show Holds wx (iD++((ex,(.cells #[.int .u64 ea,.int .i64 ep,.bool ed,.int .i64 es] 24))::(iC++F)))from hx.p);exact⟨y0,y1,y2,y3,z0,z1,z2,z3⟩)
        clear hY;go_upto_region 38 with fail
        refine aF (fun wx=>wx.cell? ⟨ex,0,none⟩=some (.int .u64 ea)∧wx.cell? ⟨ex,1,none⟩=some (.int .i64 ep)∧wx.cell? ⟨ex,2,none⟩=some (.bool ed)∧wx.cell? ⟨ex,3,none⟩=some (.int .i64 es)∧wx.cell? ⟨eb,eo+j*4,none⟩=some (.int .u64 ea)∧wx.cell? ⟨eb,eo+j*4+1,none⟩=some (.int .i64 ep)∧wx.cell? ⟨eb,eo+j*4+2,none⟩=some (.bool ed)∧wx.cell? ⟨eb,eo+j*4+3,none⟩=some (.int .i64 es)) 14 (by kernel_rfl) (fun w1 hd=>HSG.o _ _ (oe.dr hd)) (fun w1 hd hs=>?_);have cA:=oe.dr hd;have fx:=hgY.trans (af.dr hd);clear hd oe hgY;refine dY 0 1 2 3 ?_;refine dY 4 5 6 7 ?_;refine dY 8 9 10 11 ?_;refine qL 12 13 ?_;refine Ze ?_;have cT:Holds w1 (iC++(jl++(iD++(H9++ao W)))):=cA.p;clear cA hs;go_wp2_with fail
        go_roundw
        case rel=>exact⟨j+1,by omega,rfl,cT,fx⟩
        case measure=>simp[intOf];omega
      ·have I6:¬(j:Int)<(l5.T.length:Int):=by omega
       have HOV:=aa (Nd _ _ _ (iC++(jl++(H9++ao W))) wr ac7.o hH.p (by have:=IV.o;omega));clear hH;go_wp2_with fail
       refine HOV.o.mono ?_;rintro e w2'⟨rfl,aB,aX⟩;have cY:=hG.trans aX;have F3:=aa (cD oZ.o aB);clear aB aX hG HOV;go_wp2_with fail
       refine F3.o.mono ?_;rintro e w6⟨v6,ti,rfl,zO,bC,eJ⟩;have jn:=cY.trans eJ;have Uz:=aa (cD ZT.o (Fr:=ti++(iC++(jl++ao W))) bC.p);have Ov:=aa (show aP v6 l5.T ti from zO);clear zO bC eJ cY F3;go_wp2_with fail
       refine Uz.o.mono ?_;rintro e w7⟨v7,Z0,rfl,TM,cA,jk⟩;have fx:=jn.trans jk;have kJ:=mH v6 v7 l1.T w7 (by have h:=Ov.o.at_ (Fr:=Z0++(H9++(iC++(jl++ao W)))) (w:=w7) cA.p;rw[jH.o.2.2.1]at h;exact h) (TM.at_ cA);have pH:=aa kJ;have HH7:=aa (show Holds w7 (ao W)from(show Holds w7 (Z0++(H9++(ti++(iC++(jl++ao W)))))from cA).right.right.right.right.right);clear TM cA jk jn Uz kJ;go_wp2_with fail
       refine pH.o.mono ?_;rintro e w8⟨rfl,q8,rfl⟩;have iT:=fx.drewN q8;have Bj:=aa (eN (w7.drewN q8) (ao W) (HH7.o.drewN q8));clear fx HH7 pH;go_wp2_with fail
       refine Bj.o.mono ?_;rintro e wa⟨rfl,fU,vC⟩;have FT:=iT.trans vC;clear Bj vC iT;go_wp2_with fail
       go_ret;exact⟨rfl,fU,FT⟩
end Go.Proofs.YtalnifciidblkaaGreatDoor
