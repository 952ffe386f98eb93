/-
  Lemmas.
-/
import Derived.Test.YtalnifciidblkaaGreatDoorG23
import Derived.Test.YtalnifciidblkaaGreatDoorG32
import Derived.Test.YtalnifciidblkaaGreatDoorG28
namespace Go.Proofs.YtalnifciidblkaaGreatDoor
open _root_.Go.Proofs.Tryz
open Go.RowKit
set_option linter.unusedSimpArgs false
set_option linter.unusedVariables false
set_option maxRecDepth 100000
set_option maxHeartbeats 8000000
theorem mG{α β:Type}{x:α×β}{b:β}(h:x.2=b):x=(x.1,b):=by cases x;cases h;rfl
theorem Y9{v:Value}{ms:List Mi}{W:World}(h:L6 W v ms):F9 (ao W) v ms:=fun wx hx=>ag.keep h (w':=wx) (fun p u hp=>JN (H:=[]) (by simpa using hx) hp)
theorem FI{v:Value}{l:List sB}{W:World}(h:EE W v l):∀wx,Holds wx (ao W)->EE wx v l:=fun wx hx=>ag.keep h (w':=wx) (fun p u hp=>JN (H:=[]) (by simpa using hx) hp)
theorem FK{w:World}{b o:Nat}{l:List sB}(h:∀j u,(l.map sB.cells).flatten[j]?=some u->w.cell? ⟨b,o+j,none⟩=some u){k:Nat}(hk:k<l.length):
  w.cell? ⟨b,o+k*4,none⟩=some (.int .i64 l[k].d)∧w.cell? ⟨b,o+k*4+1,none⟩=some (.int .i64 l[k].n)∧w.cell? ⟨b,o+k*4+2,none⟩=some (.int .u64 l[k].a)∧w.cell? ⟨b,o+k*4+3,none⟩=some (.bool l[k].y):=by
 have hf:∀j,j<4->w.cell? ⟨b,o+(k*4+j),none⟩=(l[k].cells)[j]?:=fun j hj=>by
  have h1:=dS (size:=4) (l.map sB.cells) (fun x hx=>by obtain⟨a,_,rfl⟩:=List.mem_map.1 hx;rfl) k j (l[k].cells) (by simp[hk]) hj;have h2:(l[k].cells)[j]?=some ((l[k].cells)[j]'(by simpa[sB.cells]using hj)):=bF _;rw[h2]at h1⊢;exact h _ _ h1
 exact⟨by have:=hf 0 (by omega);rw[fD]at this;exact this,by have:=hf 1 (by omega);rw[<-gW]at this;exact this,by have:=hf 2 (by omega);rw[<-gW]at this;exact this,by have:=hf 3 (by omega);rw[<-gW]at this;exact this⟩
def aR:List UInt8:=[115,104,101,108,102]
def Yo(n mb cb g cap:Nat)(mv:Value)(W:World)(gv iv:Value)(wr:World):Prop:=
 ∃(k b sb:Nat) (l:LM) (s:SM) (c:CM) (Ms:List (List az)) (Hm H Hs Hc:HL),k<=n∧iv=.int .i64 k∧gv=.pointer (some ⟨b,0,none⟩)∧gy aR (1+300*k) l s c∧ek mb aR l.T Ms Hm∧c.ops<=2400+4000000*k∧aT b sb l H∧cr sb cb s Hs∧ai cb g cap mv c Hc∧Holds wr (Hm++(H++(Hs++(Hc++ao W))))∧af W wr
theorem uj.nil:uj (.slice none 0 0) [] []:=⟨[],[],[],rfl,au.nil _ _,rfl,fun x hx=>absurd hx (by simp),fun w _ i h=>absurd h (by simp)⟩
def tQ(tb:Nat)(nm:List UInt8):Obj:=m17 (List.replicate 256 (.bool false)) (.pointer (some ⟨tb,0,none⟩)) (.slice none 0 0) nm
theorem GU(p st:Value):((Tryz.zeroCells74.setIfInBounds 0 p).setIfInBounds 2 st)=(p::.slice none 0 0::st::List.replicate 256 (.bool false)).toArray:=by
 rw[show Tryz.zeroCells74=(.pointer none::.slice none 0 0::.string ⟨#[]⟩::List.replicate 256 (.bool false)).toArray by kernel_rfl];simp only[List.setIfInBounds_toArray,List.set_cons_zero,List.set_cons_succ]
theorem GV{w:World}{F:HL}{tb mb:Nat}{nm:List UInt8}:ek mb nm [] [] ((mb,tQ tb nm)::((tb,.cells #[.slice none 0 0] 70)::([]++[]))):=
 ⟨_,_,_,[(tb,.cells #[.slice none 0 0] 70)],[],rfl,⟨List.Pairwise.nil,fun e he=>absurd he (by simp),by simp,_,_,[],rfl,au.nil _ _,rfl⟩,uj.nil⟩
theorem En(mv0:Value)(ms:List Mi)(av:Value)(l:List sB)(W:World)(hmv:L6 W mv0 ms)(hav:EE W av l∧∀x∈l,x.ok):Calls Tryz.prog 5 #[mv0,av] W (cM (.bool true) W (ao W)):=by
 have hH:=holds_all W;have k1:=oF;have k2:=nil_eq;have k3:=cS;have k4:=cC;have HMV:=aa (Y9 hmv);have HAV:=aa (FI hav.1);have lR:=aa hav.2;obtain⟨_,A1,ck1,rfl,_,_,_⟩:=hmv;obtain⟨⟨_,A2,Zz,rfl,_,_,_⟩,_⟩:=hav;have jD:=af.refl W;go_enter func5,ntmps5;by_cases h24:24<l.length
 ·have Qp:(24:Int)<(l.length:Int):=by omega
  go_wp2_with fail
  refine(eN _ _ hH).mono ?_;rintro e wa⟨rfl,fU,vC⟩;go_wp2_with fail
  go_ret;exact⟨rfl,fU,vC⟩
 by_cases h30:30<ms.length
 ·have Qp:¬(24:Int)<(l.length:Int):=by omega
  have aoT:(30:Int)<(ms.length:Int):=by omega
  go_wp2_with fail
  refine(eN _ _ hH).mono ?_;rintro e wa⟨rfl,fU,vC⟩;go_wp2_with fail
  go_ret;exact⟨rfl,fU,vC⟩
 have Qp:¬(24:Int)<(l.length:Int):=by omega
 have aoT:¬(30:Int)<(ms.length:Int):=by omega
 have SK:=aa (Sp _ ms W _ HMV.o hH (by omega));clear hH;go_wp2_with fail
 refine SK.o.mono ?_;rintro e w0⟨mb0,rfl,oX,ux,aK⟩;cases mb0 with
 |false=>
  have Bj:=aa (eN w0 _ ux);clear ux oX SK;go_wp2_with fail
  refine Bj.o.mono ?_;rintro e wa⟨rfl,fU,vC⟩;have FT:=aK.trans vC;clear Bj vC aK;go_wp2_with fail
  go_ret;exact⟨rfl,fU,FT⟩
 |true=>
  have AR:=oX rfl;have HN:=aa (yG 16 4 128 (.slice none 0 0) (.slice A1 ms.length ck1) [] ms w0 _ ux (Cf _) HMV.o (fun wx F hx=>Pz _ ms wx _ (fun wy hy=>HMV.o wy hy.right) hx AR) (by omega) (by omega) (by omega) (by omega) (by omega) (by omega) AR.1 AR.2.1 (by simp));clear oX AR SK ux;go_wp2_with fail
  refine HN.o.mono ?_;rintro e w2⟨dv,H0,rfl,⟨cb,g,cap,mv,rfl,jQ⟩,aB,aX⟩;have cY:=aK.trans aX;obtain⟨qM,pK,rT,gF,ju,ir⟩:=pA ms;have qI:=aa (nT jQ aB (mA [] ms) rfl (by rw[ir];omega));have tS:bW (CM.new 16 4 128 [] ms)=((bW (CM.new 16 4 128 [] ms)).1,CM.new 16 4 128 [] ms,0):=mG qM;have jq:=fO (nm:=aR) eI pK rT gF ju (fun n _=>nB [] ms n);generalize(bW (CM.new 16 4 128 [] ms)).1=s0 at*;generalize CM.new 16 4 128 [] ms=c0 at*;rw[tS]at qI;have xJ:eT s0 (aC s0)=0∧dp s0 (aC s0)=0:=by
   rw[cL pK,jq.1];exact⟨rfl,rfl⟩
  have rI:=aa jq;have mO:=aa (aS pK (aS rT (aS gF (aS ir xJ))));clear jQ aB aX HN qM tS jq pK rT gF ju ir xJ aK jD;go_wp2_with fail
  refine qI.o.mono ?_;rintro e w3 (⟨h0,sb,Hs,Hc,rfl,hs,cz,aD,bj⟩|⟨h0,_⟩);rotate_left
  ·exact absurd rfl h0
  dsimp only at hs cz;have cf:=cY.trans bj;have xB:=aa (show Calls Tryz.prog 12 #[.pointer (some ⟨sb,0,none⟩),.string {data:=#[115,104,101,108,102]}] w3 (zh sb cb g cap mv (aL aR s0 c0) w3 (ao W))from
   iI aR eI hs cz aD mO.o.1 mO.o.2.1 (by rw[mO.o.2.2.1.1];omega) (by rw[mO.o.2.2.2.1];omega) (by rw[mO.o.2.2.2.2.1];omega) (by rw[mO.o.2.2.2.2.2];omega))
  have fZ:=rI.o.2.2.2.2;generalize aL aR s0 c0=r at*;clear hs cz aD bj h0 qI cY;go_wp2_with fail
  refine xB.o.mono ?_;rintro e w5⟨jl,pZ,lu,fS,dJ,(⟨h0,b,H5,rfl,ki,bg⟩|⟨h0,ve,He,rfl,he,bg⟩)⟩;rotate_left
  ·have eY:=cf.trans dJ;have SH:r.2.2.2=7∨r.2.2.2=4:=by
    rcases fZ.2 with⟨h,_⟩|h|⟨h,_⟩
    ·exact absurd h h0
    ·exact .inl h
    ·exact .inr h
   obtain⟨be,se,rfl,rfl⟩:=cI he h0;have hY:Holds w5 ([(be,.cells #[.int .i64 r.2.2.2,.string se] 143)]++(jl++(pZ++ao W))):=bg.p;have Bj:=aa (eN w5 (ao W) hY.right.right.right);have tX:=aa (jL _ r.2.2.2 _ _ w5 he hY (by omega));clear lu fS dJ bg hY he xB fZ rI cf;generalize r.2.2.2=code at*;rcases SH with rfl|rfl
   ·go_wp2_with fail
    refine tX.o.mono ?_;rintro e wx⟨rfl,rfl⟩;go_wp2_with fail
    refine tX.o.mono ?_;rintro e wx⟨rfl,rfl⟩;go_wp2_with fail
    refine Bj.o.mono ?_;rintro e wa⟨rfl,fU,vC⟩;go_wp2_with fail
    go_ret;exact⟨rfl,fU,eY.trans vC⟩
   ·go_wp2_with fail
    refine tX.o.mono ?_;rintro e wx⟨rfl,rfl⟩;go_wp2_with fail
    refine Bj.o.mono ?_;rintro e wa⟨rfl,fU,vC⟩;go_wp2_with fail
    go_ret;exact⟨rfl,fU,eY.trans vC⟩
  ·have eY:=cf.trans dJ;have uz:gy aR 1 r.1 r.2.1 r.2.2.1∧r.1.T=[]∧r.2.2.1.ops<=2400:=by
    have ir:=mO.o.2.2.2.1;rcases fZ.2 with⟨_,a,b,_⟩|h|⟨h,_⟩
    ·exact⟨a,b,by have:=fZ.1;omega⟩
    ·exact absurd (show r.2.2.2=7 from h) (by rw[h0];decide)
    ·exact absurd (show r.2.2.2=4 from h) (by rw[h0];decide)
   have jH:=aa uz;have pL:=aa ki;have xz:=aa lu;have tN:=aa fS;have bM:=bg.alloc (.cells #[.slice none 0 0] 70);have cJ:=eY.alloc (.cells #[.slice none 0 0] 70);clear uz ki lu fS bg dJ fZ rI cf eY xB h0 mO;go_upto_region 11 with fail
   have dZ:=bM.alloc (tQ w5.heap.size aR);have iZ:=cJ.alloc (tQ w5.heap.size aR);rw[World.size_alloc]at dZ;rw[show Obj.cells ((Tryz.zeroCells74.setIfInBounds 0 (.pointer (some ⟨w5.heap.size,0,none⟩))).setIfInBounds 2 (.string {data:=#[115,104,101,108,102]})) 74=tQ w5.heap.size aR by rw[GU];rfl];generalize(w5.alloc (.cells #[.slice none 0 0] 70)).alloc (tQ w5.heap.size aR)=w6 at*;have bD:Yo l.length (w5.heap.size+1) cb g cap mv W (.pointer (some ⟨b,0,none⟩)) (.int .i64 0) w6:=
    ⟨0,b,sb,r.1,r.2.1,r.2.2.1,[],_,H5,jl,pZ,by omega,rfl,rfl,jH.o.1,by rw[jH.o.2.1];exact GV (w:=w6) (F:=[]),by have:=jH.o.2.2;omega,pL.o,xz.o,tN.o,
     (show Holds w6 (((w5.heap.size+1,tQ w5.heap.size aR)::((w5.heap.size,.cells #[.slice none 0 0] 70)::([]++[])))++(H5++(jl++(pZ++ao W))))from dZ),iZ⟩
   generalize w5.heap.size+1=mb at*;clear bM cJ dZ iZ jH pL xz tN;go_wp2_with fail
   go_loopw [8,11] (fun gv iv wr=>Yo l.length mb cb g cap mv W gv iv wr) (fun _ i _=>l.length-(intOf i).toNat)
   case atStart=>exact bD
   case round=>
    clear bD;obtain⟨k,b1,sb1,l1,s1,c1,Ms,Hm,H1,kE,jJ,hk,rfl,rfl,hS,hm,im,iY,kU,jr,hH,hG⟩:=hrel;by_cases aG:k<l.length
    ·have Dn:(k:Int)<(l.length:Int):=by omega
     obtain⟨_,A3,c3,kS,_,_,cm⟩:=HAV.o wr hH.right.right.right.right;injection kS with Mu Uw Mv;subst Mu;subst Mv;clear Uw;obtain⟨b8,o8,rfl,bm⟩:=cm (by omega);obtain⟨x0,x1,x2,x3⟩:=FK bm aG;have hxa:=lR.o _ (cX aG);generalize l[k]=x at*;obtain⟨xd,xn,xa,xy⟩:=x;dsimp only at x0 x1 x2 x3;have TL:=aa (pE xd xn xa xy hS (by omega) hm iY kU jr hH (by omega) hxa);have HK:=aa (aS im (show(k:Int)<=24 by omega));clear bm cm hS hm iY kU jr hH im hxa;go_wp2_with fail
     refine TL.o.mono ?_;rintro e w7⟨b',ID,l',s',c',rV,tY,H',ke,cO,rfl,S0,uy,_,_,_,Ut,vh,vo,eG,gK,nD⟩;have WX:=hG.trans nD;have Lm:=nh eG (show Holds w7 (cO++(tY++(H'++(ke++ao W))))from gK.p);rw[S0.kT]at Lm;have xE:=aa Lm;have LZ:=aa (aS S0 uy);have TC:=aa vh;have WY:=aa vo;have HC':=aa eG;clear Lm S0 uy vh vo eG nD hG TL x0 x1 x2 x3;go_wp2_with fail
     refine xE.o.mono ?_;rintro e wx⟨rfl,rfl⟩;go_wp2_with fail
     go_roundw
     case rel=>exact⟨k+1,b',ID,l',s',c',rV,tY,H',ke,cO,by omega,by go_num,rfl,LZ.o.1.mono (by omega),LZ.o.2,by have:=HK.o.1;omega,TC.o,WY.o,HC'.o,gK,WX⟩
     case measure=>simp[intOf];omega
    ·have Dn:¬(k:Int)<(l.length:Int):=by omega
     have Bj:=aa (eN wr (ao W) hH.right.right.right.right);clear hS hm iY kU jr hH im;go_wp2_with fail
     refine Bj.o.mono ?_;rintro e wy⟨rfl,DN,ZE⟩;have hGy:=hG.trans ZE;clear Bj ZE hG;go_wp2_with fail
     go_ret;exact⟨rfl,DN,hGy⟩
end Go.Proofs.YtalnifciidblkaaGreatDoor
