/-
  Lemmas.
-/
import Derived.Test.YtalnifciidblkaaGreatDoorG05
import Derived.Test.YtalnifciidblkaaGreatDoorG24
import Derived.BigRegion
import Derived.Test.YtalnifciidblkaaGreatDoorG07
namespace Go.Proofs.YtalnifciidblkaaGreatDoor
open _root_.Go.Proofs.Tryz
open Go.RowKit
set_option linter.unusedSimpArgs false
set_option linter.unusedVariables false
set_option maxRecDepth 20000
set_option maxHeartbeats 1000000
section
variable{b sb cb g cap:Nat}{mv:Value}{s:SM}{c:CM}{l:LM}{H Hs Hc Fr:HL}{w:World}
theorem NR(w:World)(Fr:HL)(hH:Holds w Fr):Calls Tryz.prog 94 #[] w (cB (fun v H=>IsTable v [] H) w Fr):=by
 refine(Rm w Fr hH).mono ?_;rintro e w'⟨v,H,rfl,h1,h2⟩;refine⟨v,H,rfl,⟨_,h1,?_,by simp⟩,h2⟩;rw[<-CR 16];exact Fk (by omega) (by omega) List.Pairwise.nil (by simp)
theorem aT.an9(h:aT b sb l H)(x y:Int):∃H',aT b sb {l with last:=x,aj:=y} H'∧∀(w:World) (F:HL),Holds w (H++F)->Holds ((w.setCell ⟨b,5,none⟩ (.int .i64 x)).setCell ⟨b,4,none⟩ (.int .i64 y)) (H'++F)∧Holds ((w.setCell ⟨b,4,none⟩ (.int .i64 y)).setCell ⟨b,5,none⟩ (.int .i64 x)) (H'++F):=by
 obtain⟨tv,pv,Ht,Hp,rfl,h1,h2⟩:=h;refine⟨_,⟨tv,pv,Ht,Hp,rfl,h1,h2⟩,fun w F hX=>⟨?_,?_⟩⟩
 ·have h5:=Holds.set hX 5 (.int .i64 x);exact Holds.set h5 4 (.int .i64 y)
 ·have h5:=Holds.set hX 4 (.int .i64 y);exact Holds.set h5 5 (.int .i64 x)
def ahT(b sb cb:Nat)(s:SM)(L:List Int)(nv:Value)(w:World)(Hs Fr:HL)(i:Value)(wr:World):Prop:=
 ∃(k:Nat) (H Hn:HL),k<=L.length∧i=.int .i64 k∧aZ nv L Hn∧aT b sb ⟨[],0,dp s (L.take k),eT s (L.take k),[],[]⟩ H∧Holds wr (H++(Hs++(Hn++Fr)))∧af w wr
theorem sW(hs:cr sb cb s Hs)(hC:aV s c)(hH:Holds w (Hs++Fr))(hy:oV s.P s.y):
  Calls Tryz.prog 49 #[.pointer (some ⟨sb,0,none⟩)] w (fun e w'=>∃b H',e=.returned (.pointer (some ⟨b,0,none⟩))∧aT b sb (kN s) H'∧Holds w' (H'++(Hs++Fr))∧af w w'):=by
 have HS:=aa hs;have HN:=aa (NR w _ hH);have AA:=aa fun(wx:World) (F:HL) (hx:Holds wx (Hs++F))=>jz (w:=wx) (Fr:=F) hs hx hy;have Dl:=aa fun(n:Int) (wx:World) (F:HL) (hx:Holds wx (Hs++F)) (h0:0<=n) (h1:n<=9223372036854775807)=>qq (w:=wx) (Fr:=F) n hs hx h0 h1;have oR:=bO hC.pl;have hBP:s.B*s.P<=256:=by
  have h2:s.B*s.P<=32*8:=Nat.mul_le_mul (by omega) (by omega);omega
 have DQ:=aa (show∀n∈aC s,0<=n∧n<=9223372036854775807 from fun n hn=>by
  rw[cL hC]at hn;obtain⟨j,hj,rfl⟩:=List.mem_map.1 hn;have:=(ig.1 hj).1;omega)
 have Xm:(aC s).length<=256:=by
  rw[cL hC,bY];have h1:(bc s).length<=s.B*s.P:=by unfold bc;have:=mU (kW s) (List.range (s.B*s.P));rwa[fP]at this
  omega
 have HB:=aa (show kN s=⟨[],0,dp s (aC s),eT s (aC s),[],[]⟩from rfl);generalize aC s=L at*;clear hs hC hH hy oR hBP;go_enter func49,ntmps49;go_wp2_with fail
 refine HN.o.mono ?_;rintro e w1⟨tv,Ht,rfl,ht,ax,aK⟩;obtain⟨tb,rfl⟩:=ht.ptr;have aB:=ax.alloc (.cells (Bg (.pointer (some ⟨tb,0,none⟩)) sb ⟨[],0,0,0,[],[]⟩ (.slice none 0 0)) 113);have cY:=aK.alloc (.cells (Bg (.pointer (some ⟨tb,0,none⟩)) sb ⟨[],0,0,0,[],[]⟩ (.slice none 0 0)) 113);have DF:aT w1.heap.size sb ⟨[],0,0,0,[],[]⟩ ((w1.heap.size,.cells (Bg (.pointer (some ⟨tb,0,none⟩)) sb ⟨[],0,0,0,[],[]⟩ (.slice none 0 0)) 113)::(Ht++[])):=⟨_,_,Ht,[],rfl,ht,au.nil _ _⟩;clear HN ht ax aK;go_upto_region 2 with fail
 rw[show w1.alloc (Obj.cells #[.pointer (some ⟨tb,0,none⟩),.pointer (some ⟨sb,0,none⟩),.string ⟨#[]⟩,.int .i64 0,.int .i64 0,.int .i64 0,.slice none 0 0] 113)=w1.alloc (.cells (Bg (.pointer (some ⟨tb,0,none⟩)) sb ⟨[],0,0,0,[],[]⟩ (.slice none 0 0)) 113)from rfl];generalize w1.alloc (.cells (Bg (.pointer (some ⟨tb,0,none⟩)) sb ⟨[],0,0,0,[],[]⟩ (.slice none 0 0)) 113)=w2 at*;generalize w1.heap.size=b at*;have aD:Holds w2 (Hs++(((b,.cells (Bg (.pointer (some ⟨tb,0,none⟩)) sb ⟨[],0,0,0,[],[]⟩ (.slice none 0 0)) 113)::(Ht++[]))++Fr)):=aB.p;clear aB;go_wp2_with fail
 refine(AA.o w2 _ aD).mono ?_;rintro e w3⟨nv,Hn,rfl,hn,aU,bV⟩;have bD:ahT b sb cb s L nv w Hs Fr (.int .i64 0) w3:=⟨0,_,Hn,by omega,rfl,hn,DF,aU.p,cY.trans bV⟩;have HLL:=aa Xm;obtain⟨A,cn,rfl⟩:=hn.val;clear aD aU cY bV hn DF AA;go_wp2_with fail
 go_loopw [15] (fun iv wr=>ahT b sb cb s L (.slice A L.length cn) w Hs Fr iv wr) (fun iv _=>L.length-(intOf iv).toNat)
 case atStart=>exact bD
 case round=>
  clear bD;obtain⟨k,H,Hn,hk,rfl,hn,hl,hH,hg⟩:=hrel;by_cases aG:k<L.length
  ·have dQ:(k:Int)<L.length:=by omega
   have hnr:=hn.at_ (Fr:=H++(Hs++Fr)) (show Holds wr (Hn++(H++(Hs++Fr)))from hH.p);obtain⟨-,A',c',hv,-,-,cm⟩:=hnr;injection hv with e1 e2 e3;subst e1 e3;clear e2;obtain⟨nb,no,rfl,bm⟩:=cm (by omega);have vp:=bm k (.int .i64 L[k]) (by rw[dW,bF aG];rfl);have qG:=DQ.o _ (cX aG);have OE:=Dl.o L[k] wr (H++(Hn++Fr)) (show Holds wr (Hs++(H++(Hn++Fr)))from hH.p) qG.1 qG.2;have IV:=aa (show eT s (L.take (k+1))=max (eT s (L.take k)) (du s L[k]).s by rw[gB aG,K6]);have ZR:=aa (show dp s (L.take (k+1))=max (dp s (L.take k)) (du s L[k]).g by rw[gB aG,Hg]);rw[show(aq s.hs L[k]).getD Hd.zero=du s L[k]from rfl]at OE;have vi:=aa OE;generalize du s L[k]=hd at*;generalize(aq s.hs L[k]).isSome=z at*;generalize L[k]=n at*;obtain⟨cZ,ez,dy,dP⟩:=hd;simp only[Hd.agg,Hd.cells]at vi;dsimp only at IV ZR;clear cm bm OE qG;go_wp2_with fail
   refine vi.o.mono ?_;rintro e w4⟨rfl,bg,dJ⟩;have bC:Holds w4 (H++(Hs++(Hn++Fr))):=bg.p;have cA:=bC.alloc (.cells #[.int .i64 cZ,.int .u64 ez,.int .i64 dy,.int .i64 dP] 59);have fx:=(hg.trans dJ).alloc (.cells #[.int .i64 cZ,.int .u64 ez,.int .i64 dy,.int .i64 dP] 59);clear bg bC dJ hH hg vi vp;go_upto_region 6 with fail
   generalize w4.alloc (.cells #[.int .i64 cZ,.int .u64 ez,.int .i64 dy,.int .i64 dP] 59)=w5 at*;generalize w4.heap.size=hb at*;obtain⟨r0,r1,r2,r3,-⟩:=cA.hJ;have cT:Holds w5 (H++(Hs++(Hn++((hb,.cells #[.int .i64 cZ,.int .u64 ez,.int .i64 dy,.int .i64 dP] 59)::Fr)))):=cA.p;obtain⟨_,_,hc⟩:=hl.cells;obtain⟨c0,c1,c2,c3,c4,c5,c6⟩:=hc w5 _ cT;obtain⟨H',vh,bz⟩:=hl.an9 (max (eT s (L.take k)) dy) (max (dp s (L.take k)) dP);have kh:=aa (bz w5 _ cT);have SL:=aa vh;obtain⟨_,_,h5⟩:=hl.Pn 0;obtain⟨_,f5,acH⟩:=h5 w5 _ cT;obtain⟨_,_,h4⟩:=hl.Ke 0;obtain⟨_,f4,_⟩:=h4 w5 _ cT;clear cA cT hc bz hl vh h5 h4 c0 c1 c2 c3 c6 r0 r1;go_region
   have di:=(kh.o.1).drew;have iU:=((fx.setCell ⟨b,5,none⟩ (.int .i64 (max (eT s (L.take k)) dy))).setCell ⟨b,4,none⟩ (.int .i64 (max (dp s (L.take k)) dP))).drew;have HK:=aa (kH (k:=k) (by have:=HLL.o;omega));clear c4 c5 f4 f5 acH kh r2 r3;generalize((w5.setCell ⟨b,5,none⟩ (.int .i64 (max (eT s (L.take k)) dy))).setCell ⟨b,4,none⟩ (.int .i64 (max (dp s (L.take k)) dP))).drew=w6 at*;have zP:=HK.o;go_wp2_with fail
   go_roundw
   case rel=>
    refine⟨k+1,H',Hn,aG,by simp,hn,?_,di.p,iU⟩;rw[IV.o,ZR.o];exact SL.o
   case measure=>
    clear zP;simp[intOf];omega
  ·have dQ:¬(k:Int)<L.length:=by omega
   obtain rfl:k=L.length:=by omega
   rw[fB]at hl;go_wp2_with fail
   go_ret;exact⟨b,rfl,H,by rw[HB.o];exact hl,hH.p,hg⟩
end
section
theorem zG{zs:List Int}(h:zs.Pairwise fun a b=>a<=b):∀m,m<=zs.length->(Go.Lib.compactUpTo zs.toArray m).Pairwise (fun a b=>a<b)∧∀x,x∈Go.Lib.compactUpTo zs.toArray m↔x∈zs.take m
 |0,_=>⟨by simp[Go.Lib.compactUpTo],fun x=>by simp[Go.Lib.compactUpTo]⟩
 |m+1,hm=>by
  obtain⟨h1,h2⟩:=zG h m (by omega);have oh:zs.toArray[m]! =zs[m]'(by omega):=by rw[getElem!_pos zs.toArray m (by simp;omega)];simp
  have oT:zs.take (m+1)=zs.take m++[zs[m]'(by omega)]:=gB (by omega);have hle:=List.pairwise_iff_getElem.1 h;rw[Go.Lib.compactUpTo_succ,oh,oT];by_cases hk:Go.Lib.keeps zs.toArray m=true
  ·rw[if_pos hk];refine⟨?_,fun x=>by rw[lZ,lZ,h2]⟩;rw[List.pairwise_append];refine⟨h1,List.pairwise_singleton _ _,fun a ha b hb=>?_⟩;rw[List.mem_singleton.1 hb];have As:=(h2 a).1 ha;obtain⟨i,hi,rfl⟩:=List.mem_take_iff_getElem.1 As;have tJ:i<m:=by omega
   have oc:zs.toArray[m-1]! =zs[m-1]'(by omega):=by rw[getElem!_pos zs.toArray (m-1) (by simp;omega)];simp
   have ei:zs[m]'(by omega)≠zs[m-1]'(by omega):=by
    intro e;have:=Go.Lib.keeps_neg (d:=zs.toArray) (m:=m) (by omega) (by rw[oh,oc,e]);rw[hk]at this;exact absurd this (by decide)
   have h5:=hle (m-1) m (by omega) (by omega) (by omega);have h6:zs[i]'(by omega)<=zs[m-1]'(by omega):=by
    by_cases e:i=m-1
    ·subst e;exact bG _
    ·exact hle i (m-1) (by omega) (by omega) (by omega)
   omega
  ·rw[if_neg hk,kZ];refine⟨h1,fun x=>?_⟩;rw[lZ,h2];have hm0:0<m:=by
    rcases nG m with e|e
    ·subst e;exact absurd (Go.Lib.keeps_lt_one zs.toArray 0 (by omega)) hk
    ·exact e
   have oc:zs.toArray[m-1]! =zs[m-1]'(by omega):=by rw[getElem!_pos zs.toArray (m-1) (by simp;omega)];simp
   have he:zs[m]'(by omega)=zs[m-1]'(by omega):=by
    rcases Decidable.em (zs[m]'(by omega)=zs[m-1]'(by omega))with e|e
    ·exact e
    ·exact absurd (Go.Lib.keeps_pos (by rw[oh,oc];exact e)) hk
   constructor
   ·intro hx;exact aQ hx
   ·rintro(hx|hx)
    ·exact hx
    ·rw[List.mem_singleton.1 hx,he];exact List.mem_take_iff_getElem.2 ⟨m-1,by omega,rfl⟩
theorem Lc(zs:List Int):(sa zs).Pairwise fun a b=>a<=b:=by
 have h:=List.pairwise_mergeSort (le:=fun x y:Int=>decide (x<=y)) (fun a b c h1 h2=>by simp at*;omega) (fun a b=>by simp;omega) zs;exact h.imp fun h=>by simpa using h
theorem Wi(zs:List Int):(me (sa zs)).Pairwise (fun a b=>a<b)∧∀x,x∈me (sa zs)↔x∈zs:=by
 obtain⟨h1,h2⟩:=zG (Lc zs) (sa zs).length (aN _);have e:me (sa zs)=Go.Lib.compactUpTo (sa zs).toArray (sa zs).length:=by unfold me;simp
 rw[e];refine⟨h1,fun x=>?_⟩;rw[h2,fB];unfold sa;exact List.mem_mergeSort
variable{sb cb:Nat}{s:SM}{c:CM}{Hs Fr:HL}{w:World}
def iQ(s:SM)(L:List Int):List Int:=(L.filter fun n=>decide ((du s n).k=4)).map fun n=>(du s n).g
def nN(s:SM):List Int:=(me (sa (iQ s (aC s)))).reverse
theorem uV(s:SM):(nN s).Pairwise (fun a b=>b<a)∧∀x,x∈nN s↔x∈iQ s (aC s):=by
 obtain⟨h1,h2⟩:=Wi (iQ s (aC s));unfold nN;exact⟨List.pairwise_reverse.2 h1,fun x=>by rw[List.mem_reverse,h2]⟩
def Yb(s:SM)(L:List Int)(nv:Value)(w:World)(Hs Fr:HL)(ov iv:Value)(wr:World):Prop:=
 ∃(k:Nat) (Ho Hn:HL),k<=L.length∧iv=.int .i64 k∧aZ nv L Hn∧aZ ov (iQ s (L.take k)) Ho∧Holds wr (Hs++(Ho++(Hn++Fr)))∧af w wr
theorem C5(hs:cr sb cb s Hs)(hC:aV s c)(hH:Holds w (Hs++Fr)):Calls Tryz.prog 58 #[.pointer (some ⟨sb,0,none⟩)] w (cB (fun v H'=>aZ v (nN s) H') w (Hs++Fr)):=by
 have AA:=aa (jz (w:=w) (Fr:=Fr) hs hH hC.vu);have Dl:=aa fun(n:Int) (wx:World) (F:HL) (hx:Holds wx (Hs++F)) (h0:0<=n) (h1:n<=9223372036854775807)=>qq (w:=wx) (Fr:=F) n hs hx h0 h1;have oR:=bO hC.pl;have hBP:s.B*s.P<=256:=by
  have h2:s.B*s.P<=32*8:=Nat.mul_le_mul (by omega) (by omega);omega
 have DQ:=aa (show∀n∈aC s,0<=n∧n<=9223372036854775807 from fun n hn=>by
  rw[cL hC]at hn;obtain⟨j,hj,rfl⟩:=List.mem_map.1 hn;have:=(ig.1 hj).1;omega)
 have Xm:(aC s).length<=256:=by
  rw[cL hC,bY];have h1:(bc s).length<=s.B*s.P:=by unfold bc;have:=mU (kW s) (List.range (s.B*s.P));rwa[fP]at this
  omega
 have HB:=aa (show nN s=(me (sa (iQ s (aC s)))).reverse from rfl);generalize aC s=L at*;clear hs hC hH oR hBP;go_enter func58,ntmps58;go_wp2_with fail
 refine AA.o.mono ?_;rintro e w1⟨nv,Hn,rfl,hn,ax,aK⟩;have bD:Yb s L nv w Hs Fr (.slice none 0 0) (.int .i64 0) w1:=⟨0,[],Hn,by omega,rfl,hn,au.nil _ _,(show Holds w1 (Hs++([]++(Hn++Fr)))from ax.p),aK⟩;obtain⟨A,cn,rfl⟩:=hn.val;clear hn ax aK AA;go_wp2_with fail
 go_loopw [3,11] (fun ov iv wr=>Yb s L (.slice A L.length cn) w Hs Fr ov iv wr) (fun _ iv _=>L.length-(intOf iv).toNat)
 case atStart=>exact bD
 case round=>
  clear bD;obtain⟨k,Ho,Hn,hk,rfl,hn,ho,hH,hg⟩:=hrel;have hol:(iQ s (L.take k)).length<=k:=by
   unfold iQ;rw[bY];have:=mU (fun n=>decide ((du s n).k=4)) (L.take k);rw[dG]at this;omega
  by_cases aG:k<L.length
  ·have dQ:(k:Int)<L.length:=by omega
   obtain⟨-,A',cn',Oz,-,-,Bu⟩:=hn.at_ (Fr:=Hs++(Ho++Fr)) (show Holds wr (Hn++(Hs++(Ho++Fr)))from hH.p);injection Oz with e1 e2 e3;subst e1 e3;clear e2;obtain⟨nb,no,rfl,bm⟩:=Bu (by omega);have vp:=bm k (.int .i64 L[k]) (by rw[dW,bF aG];rfl);have qG:=DQ.o _ (cX aG);have jP:=aa (show iQ s (L.take (k+1))=iQ s (L.take k)++(if(du s L[k]).k=4 then[(du s L[k]).g]else[]) by
    rw[gB aG];unfold iQ;rw[oA,dm];congr 1;by_cases e:(du s L[k]).k=4
    ·rw[if_pos e];simp[e]
    ·rw[if_neg e];simp[e])
   have OE:=Dl.o L[k] wr (Ho++(Hn++Fr)) hH qG.1 qG.2;rw[show(aq s.hs L[k]).getD Hd.zero=du s L[k]from rfl]at OE;have vi:=aa OE;generalize du s L[k]=hd at*;generalize(aq s.hs L[k]).isSome=z at*;generalize L[k]=n at*;obtain⟨cZ,ez,dy,dP⟩:=hd;simp only[Hd.agg,Hd.cells]at vi;dsimp only at jP;have HN:=aa hn;have HO:=aa ho;obtain⟨A8,c8,rfl⟩:=ho.val;clear Bu bm OE qG hn ho;go_wp2_with fail
   refine vi.o.mono ?_;rintro e w4⟨rfl,bg,dJ⟩;have cA:=bg.alloc (.cells #[.int .i64 cZ,.int .u64 ez,.int .i64 dy,.int .i64 dP] 59);have fx:=(hg.trans dJ).alloc (.cells #[.int .i64 cZ,.int .u64 ez,.int .i64 dy,.int .i64 dP] 59);clear bg dJ hH hg vi vp;go_upto_region 6 with fail
   generalize w4.alloc (.cells #[.int .i64 cZ,.int .u64 ez,.int .i64 dy,.int .i64 dP] 59)=w5 at*;generalize w4.heap.size=hb at*;obtain⟨r0,r1,r2,r3,-⟩:=cA.hJ;by_cases h4:cZ=4
   ·subst h4;have Gr:=aa (show∀(A':Option Addr) (c2:Nat) (H':HL) (w':World),au 3 1 (.slice A' ((iQ s (L.take k)).length+1) c2) ((iQ s (L.take k)).length+1) ((iQ s (L.take k)).map (.int .i64)++[.int .i64 dP]) H'->Holds w' (H'++(Hs++(Hn++Fr)))->af w w'->
      Yb s L (.slice (some ⟨nb,no,none⟩) L.length cn) w Hs Fr (.slice A' ((iQ s (L.take k)).length+1) c2) (.int .i64 ((k:Int)+1)) w' from fun A' c2 H' w' ay hX vj=>
     ⟨k+1,H',Hn,aG,rfl,HN.o,by rw[jP.o,if_pos rfl];unfold aZ;rw[aY,mT,dm];exact ay,hX.p,vj⟩)
    have jm:=aa (show au 3 1 (.slice A8 (iQ s (L.take k)).length c8) (iQ s (L.take k)).length ((iQ s (L.take k)).map (.int .i64)) Ho from HO.o);have FX:Holds w5 (Ho++(Hs++(Hn++Fr))):=(show Holds w5 (Hs++(Ho++(Hn++Fr)))from cA.tail).p;generalize iQ s (L.take k)=G at*;have oc:G.length+1<=maxLen:=by simp only[maxLen];omega
    have si:(G.length+1)*8<=140737488355328:=by omega
    clear jP HO HN cA;go_wp2_with (at_builtin;refine al ud (by rfl) (.tmp 24) (.tmp 27) (by rfl) (by rfl) (by rfl) jm.o (FX.bP _) ag.one (by simp[Value.oneCell']) oc si ?_;intro A' c2 w' H' ay hX vj)
    exact⟨Gr.o A' c2 H' w' ay hX ((fx.alloc _).trans vj),by simp[intOf];omega⟩
   ·have h4n:(cZ==4)=false:=beq_eq_false_iff_ne.2 h4;have Gr:=aa (show Yb s L (.slice (some ⟨nb,no,none⟩) L.length cn) w Hs Fr (.slice A8 (iQ s (L.take k)).length c8) (.int .i64 ((k:Int)+1)) w5 from
     ⟨k+1,Ho,Hn,aG,rfl,HN.o,by rw[jP.o,if_neg h4,kZ];exact HO.o,cA.tail,fx⟩)
    clear jP HO HN cA;go_wp2_with fail
    exact⟨Gr.o,by simp[intOf];omega⟩
  ·have dQ:¬(k:Int)<L.length:=by omega
   obtain rfl:k=L.length:=by omega
   rw[fB]at ho hol;generalize iQ s L=G at*;have hGl:G.length<=1000000:=by omega
   have ahZ:=aa (RV _ G Ho (Hs++(Hn++Fr)) wr ho hH.p hGl);obtain⟨A8,c8,rfl⟩:=ho.val;clear ho hH hn;go_wp2_with fail
   refine ahZ.o.mono ?_;rintro e w2⟨rfl,H2,h2,aB,aX⟩;have TU:=aa (RW _ (sa G) H2 (Hs++(Hn++Fr)) w2 h2 aB (by rw[Cr];exact hGl));clear h2 aB ahZ;go_wp2_with fail
   refine TU.o.mono ?_;rintro e w3⟨v3,H3,rfl,h3,aD,bj⟩;have aof:=aa (Wg _ (me (sa G)) H3 (Hs++(Hn++Fr)) w3 h3 aD (by have:=Kn (sa G);rw[Cr]at this;omega));obtain⟨A9,c9,rfl⟩:=h3.val;clear h3 aD TU;go_wp2_with fail
   refine aof.o.mono ?_;rintro e w4⟨rfl,H4,h4,aU,bV⟩;go_wp2_with fail
   go_ret;exact⟨_,H4,rfl,by rw[HB.o];exact h4,aU.p,((hg.trans aX).trans bj).trans bV⟩
end
end Go.Proofs.YtalnifciidblkaaGreatDoor
