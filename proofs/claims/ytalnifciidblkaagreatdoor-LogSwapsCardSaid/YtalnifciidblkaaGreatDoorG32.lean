/-
  Lemmas.
-/
import Derived.Test.YtalnifciidblkaaGreatDoorG24
import Derived.BigQuiet
namespace Go.Proofs.YtalnifciidblkaaGreatDoor
open _root_.Go.Proofs.Tryz
open Go.RowKit
set_option linter.unusedSimpArgs false
set_option linter.unusedVariables false
set_option maxRecDepth 20000
set_option maxHeartbeats 4000000
def JK(ms:List Mi):Prop:=ms.length<=24∧(∀m∈ms,m.ok)∧ms.Pairwise fun a b=>a.at_<b.at_
def ajI(n:Nat)(w:World)(Fr:HL)(iv:Value)(wr:World):Prop:=∃k:Nat,k<=n∧iv=.int .i64 k∧Holds wr Fr∧af w wr
theorem Pz(v:Value)(ms:List Mi)(w:World)(Fr:HL)(hv:F9 Fr v ms)(hH:Holds w Fr)(hm:JK ms):
  Calls Tryz.prog 39 #[v] w (cM (.bool true) w Fr):=by
 obtain⟨h24,cj,hpw⟩:=hm;have HV:=aa hv;have zK:=hv w hH;obtain⟨_,A,c,rfl,ff,gT,cm⟩:=zK;have lR:=aa cj;have HPW:=aa hpw;have jD:=af.refl w;clear hv cj hpw cm ff gT;go_enter func39,ntmps39;go_wp2_with fail
 go_loopw [7] (fun iv wr=>ajI ms.length w Fr iv wr) (fun iv _=>ms.length-(intOf iv).toNat)
 case atStart=>exact⟨0,by omega,rfl,hH,jD⟩
 case round=>
  clear hH jD;obtain⟨k,hk,rfl,eh,gf⟩:=hrel;by_cases aG:k<ms.length
  ·have dQ:(k:Int)<ms.length:=by omega
   obtain⟨h1x,A2,c2,mg,h2x,h3x,cm⟩:=HV.o wr eh;injection mg with ac1 ac2 ac3;subst ac1;subst ac3;clear ac2 h1x h2x h3x;obtain⟨b,o,rfl,bm⟩:=cm (by omega);have iM:∀(j:Nat) (hj:j<ms.length) (q:Nat),q<4->((ms.map Mi.cells).flatten)[j*4+q]?=(ms[j]).cells[q]?:=fun j hj q hq=>
    dS (size:=4) (ms.map Mi.cells) (fun x hx=>by obtain⟨m,_,rfl⟩:=List.mem_map.1 hx;rfl) j q _ (by rw[dW,bF hj];rfl) hq
   have y0:=bm (k*4) (.int .i64 (ms[k]).at_) (by rw[<-fD (k*4),iM k aG 0 (by omega)];rfl);have y1:wr.cell? ⟨b,o+k*4+1,none⟩=some (.int .i64 (ms[k]).kind):=by rw[gW];exact bm (k*4+1) _ (by rw[iM k aG 1 (by omega)];rfl)
   have y2:wr.cell? ⟨b,o+k*4+2,none⟩=some (.int .i64 (ms[k]).bytes):=by rw[gW];exact bm (k*4+2) _ (by rw[iM k aG 2 (by omega)];rfl)
   have y3:wr.cell? ⟨b,o+k*4+3,none⟩=some (.int .u8 ((ms[k]).fill.toNat:Int)):=by rw[gW];exact bm (k*4+3) _ (by rw[iM k aG 3 (by omega)];rfl)
   have HM:=aa (lR.o _ (cX aG));have SP:Zh (∀j:Nat,k=j+1->∃z:Int,z<(ms[k]).at_∧∀(wx:World),Holds wx Fr->wx.cell? ⟨b,o+j*4,none⟩=some (.int .i64 z)):=aa (fun j hj=>by
    have I6:j<ms.length:=by omega
    refine⟨(ms[j]).at_,(List.pairwise_iff_getElem.1 HPW.o) j k I6 aG (by omega),fun wx hx=>?_⟩;obtain⟨_,A3,c3,kS,_,_,ac4⟩:=HV.o wx hx;injection kS with Mu Uw Mv;subst Mu;subst Mv;obtain⟨b3,o3,he,vJ⟩:=ac4 (by omega);injection he with he;injection he with Tr oU;subst Tr oU;exact vJ (j*4) _ (by rw[<-fD (j*4),iM j I6 0 (by omega)];rfl))
   generalize ms[k]=m at*;have HHS:=aa (eh.alloc (.cells #[.int .i64 m.at_,.int .i64 m.kind,.int .i64 m.bytes,.int .u8 (m.fill.toNat:Int)] 87));have Tx:=aa (gf.alloc (.cells #[.int .i64 m.at_,.int .i64 m.kind,.int .i64 m.bytes,.int .u8 (m.fill.toNat:Int)] 87));have vA:=aa aG;clear bm cm iM eh gf aG hk;go_upto_region 4 with fail
   have eh:=HHS.o;have gf:=Tx.o;clear HHS Tx y0 y1 y2 y3;generalize wr.alloc (.cells #[.int .i64 m.at_,.int .i64 m.kind,.int .i64 m.bytes,.int .u8 (m.fill.toNat:Int)] 87)=wA at*;generalize wr.heap.size=t at*;have HS:=aa (fun(wx:World) (h:Holds wx ((t,Obj.cells #[.int .i64 m.at_,.int .i64 m.kind,.int .i64 m.bytes,.int .u8 (m.fill.toNat:Int)] 87)::Fr))=>
    show wx.cell? ⟨t,0,none⟩=some (.int .i64 m.at_)∧wx.cell? ⟨t,1,none⟩=some (.int .i64 m.kind)∧wx.cell? ⟨t,2,none⟩=some (.int .i64 m.bytes)∧wx.cell? ⟨t,3,none⟩=some (.int .u8 (m.fill.toNat:Int))from⟨h.ae 0,h.ae 1,h.ae 2,h.ae 3⟩)
   rcases nG k with rQ|rQ
   ·subst rQ;refine aF (fun wx=>wx.cell? ⟨t,0,none⟩=some (.int .i64 m.at_)∧wx.cell? ⟨t,1,none⟩=some (.int .i64 m.kind)∧wx.cell? ⟨t,2,none⟩=some (.int .i64 m.bytes)∧wx.cell? ⟨t,3,none⟩=some (.int .u8 (m.fill.toNat:Int))) 18 (by kernel_rfl) (fun w1 hd=>HS.o _ (eh.dr hd)) (fun w1 hd hs=>?_);have ax:=eh.dr hd;have gY:=gf.trans (af.dr hd);clear hd eh gf;refine ji 0 ?_;refine Zm 1 fun K hK=>?_;go_simp;refine(JP m w1 _ ax HM.o).mono ?_;rintro e w4 ⟨rfl,aU,bV⟩;refine hK _ _ (HS.o _ aU) (fun _=>?_);clear hK K hs;rename_i hs;refine dY 2 3 4 5 ?_;refine ji 6 ?_;refine Zs 7 19 rfl hs ?_;simp only[pt,sA,sS,sZ];refine Zs 8 20 rfl hs ?_;simp only[pt,sA,sS,sZ];refine Zs 9 21 rfl hs ?_;simp only[pt,sA,sS,sZ];refine Zs 10 22 rfl hs ?_;simp only[pt,sA,sS,sZ];refine Zs 11 23 rfl hs ?_;simp only[pt,sA,sS,sZ];refine Zs 12 24 rfl hs ?_;simp only[pt,sA,sS,sZ];refine Zs 13 25 rfl hs ?_;simp only[pt,sA,sS,sZ];refine Zs 14 26 rfl hs ?_;simp only[pt,sA,sS,sZ];refine Zs 15 27 rfl hs ?_;simp only[pt,sA,sS,sZ];refine qL 16 17 ?_;refine Ze ?_;have bg:=aU.tail;have eY:=gY.trans bV;clear aU gY bV ax;go_wp2_with fail
    exact⟨⟨1,by have:=vA.o;omega,by go_num,bg,eY⟩,by have:=vA.o;simp[intOf];omega⟩
   ·obtain⟨j,rfl⟩:∃j,k=j+1:=⟨k-1,by omega⟩;obtain⟨z,hz,Ww⟩:=SP.o j rfl;have HZC:=aa (fun(wx:World) (h:Holds wx ((t,Obj.cells #[.int .i64 m.at_,.int .i64 m.kind,.int .i64 m.bytes,.int .u8 (m.fill.toNat:Int)] 87)::Fr))=>Ww wx h.tail);have p6:(0:Int)<((j+1:Nat):Int):=by omega
    have u7:IntKind.i64.wrap (((j+1:Nat):Int)-1)=(j:Int):=by rw[fu (by omega) (by have:=vA.o;omega)];omega
    have PE:wrap64 (((j+1:Nat):Int)-1)=(j:Int):=by unfold wrap64;have:=vA.o;omega
    have hw3:IntKind.i64.wrap (j:Int)=(j:Int):=fu (by omega) (by have:=vA.o;omega);have WL:wrap64 (j:Int)=(j:Int):=by unfold wrap64;have:=vA.o;omega
    have I6:(j:Int)<ms.length:=by have:=vA.o;omega
    have Dm:¬(m.at_<=z):=by omega
    clear Ww rQ;refine aF (fun wx=>wx.cell? ⟨t,0,none⟩=some (.int .i64 m.at_)∧wx.cell? ⟨t,1,none⟩=some (.int .i64 m.kind)∧wx.cell? ⟨t,2,none⟩=some (.int .i64 m.bytes)∧wx.cell? ⟨t,3,none⟩=some (.int .u8 (m.fill.toNat:Int))∧wx.cell? ⟨b,o+j*4,none⟩=some (.int .i64 z)) 18 (by kernel_rfl) (fun w1 hd=>(by obtain⟨q1,q2,q3,q4⟩:=HS.o _ (eh.dr hd);exact⟨q1,q2,q3,q4,HZC.o _ (eh.dr hd)⟩)) (fun w1 hd hs=>?_);have ax:=eh.dr hd;have gY:=gf.trans (af.dr hd);clear hd eh gf;refine ji 0 ?_;refine Zm 1 fun K hK=>?_;go_simp;refine(JP m w1 _ ax HM.o).mono ?_;rintro e w4 ⟨rfl,aU,bV⟩;refine hK _ _ ((by obtain⟨q1,q2,q3,q4⟩:=HS.o _ aU;exact⟨q1,q2,q3,q4,HZC.o _ aU⟩)) (fun _=>?_);clear hK K hs;rename_i hs;refine dY 2 3 4 5 ?_;refine dY 6 7 8 9 ?_;refine dY 10 11 12 13 ?_;refine dY 14 15 16 17 ?_;refine Ze ?_;have bg:=aU.tail;have eY:=gY.trans bV;clear aU gY bV ax;go_wp2_with fail
    exact⟨⟨j+2,by have:=vA.o;omega,by go_num,bg,eY⟩,by have:=vA.o;simp[intOf];omega⟩
  ·have qP:¬(k:Int)<ms.length:=by omega
   obtain rfl:k=ms.length:=by omega
   have hle:(ms.length:Int)<=24:=by omega
   clear aG hk qP;go_wp2_with fail
   go_ret;exact⟨rfl,eh,gf⟩
def ad8(ms:List Mi)(w:World)(Fr:HL)(e:Ending)(w':World):Prop:=∃b:Bool,e=.returned (.bool b)∧(b=true->JK ms)∧Holds w' Fr∧af w w'
def MN(ms:List Mi)(k:Nat):Prop:=∀m,ms[k]?=some m->m.ok∧∀j,k=j+1->∀m',ms[j]?=some m'->m'.at_<m.at_
def aoJ(ms:List Mi)(w:World)(Fr:HL)(iv:Value)(wr:World):Prop:=∃k:Nat,k<=ms.length∧iv=.int .i64 k∧(∀i,i<k->MN ms i)∧Holds wr Fr∧af w wr
theorem Wn{ms:List Mi}(h24:ms.length<=24)(h:∀i,i<ms.length->MN ms i):JK ms:=by
 refine⟨h24,?_,?_⟩
 ·intro m hm;obtain⟨i,hi,rfl⟩:=List.getElem_of_mem hm;exact(h i hi _ (bF hi)).1
 ·rw[BM];intro i j hi hj rF;have:∀d:Nat,∀(hd:i+d+1<ms.length),ms[i].at_<ms[i+d+1].at_:=by
   intro d
   induction d with
   |zero=>intro hd;exact(h (i+1) (by omega) _ (bF (by omega))).2 i rfl _ (bF hi)
   |succ d ih=>
    intro hd;have h1:=ih (by omega);have h2:=(h (i+d+1+1) (by omega) _ (bF (by omega))).2 (i+d+1) rfl _ (bF (by omega));exact Int.lt_trans h1 h2
  obtain⟨d,rfl⟩:∃d,j=i+d+1:=⟨j-i-1,by omega⟩;exact this d hj
theorem Sp(v:Value)(ms:List Mi)(w:World)(Fr:HL)(hv:F9 Fr v ms)(hH:Holds w Fr)(hlen:ms.length<=30):
  Calls Tryz.prog 29 #[v] w (ad8 ms w Fr):=by
 have HV:=aa hv;have zK:=hv w hH;obtain⟨_,A,c,rfl,ff,gT,cm⟩:=zK;have jD:=af.refl w;clear hv cm ff gT;go_enter func29,ntmps29;go_wp2_with fail
 go_loopw [3] (fun iv wr=>aoJ ms w Fr iv wr) (fun iv _=>ms.length-(intOf iv).toNat)
 case atStart=>exact⟨0,by omega,rfl,fun i h=>absurd h (by omega),hH,jD⟩
 case round=>
  clear hH jD;obtain⟨k,hk,rfl,iu,eh,gf⟩:=hrel;have Am:=aa iu;clear iu;by_cases h24:ms.length<=24
  ·have Qp:(ms.length:Int)<=24:=by omega
   by_cases aG:k<ms.length
   ·have dQ:(k:Int)<ms.length:=by omega
    obtain⟨h1x,A2,c2,mg,h2x,h3x,cm⟩:=HV.o wr eh;injection mg with ac1 ac2 ac3;subst ac1;subst ac3;clear ac2 h1x h2x h3x;obtain⟨b,o,rfl,bm⟩:=cm (by omega);have iM:∀(j:Nat) (hj:j<ms.length) (q:Nat),q<4->((ms.map Mi.cells).flatten)[j*4+q]?=(ms[j]).cells[q]?:=fun j hj q hq=>
     dS (size:=4) (ms.map Mi.cells) (fun x hx=>by obtain⟨m,_,rfl⟩:=List.mem_map.1 hx;rfl) j q _ (by rw[dW,bF hj];rfl) hq
    have y0:=bm (k*4) (.int .i64 (ms[k]).at_) (by rw[<-fD (k*4),iM k aG 0 (by omega)];rfl);have y1:wr.cell? ⟨b,o+k*4+1,none⟩=some (.int .i64 (ms[k]).kind):=by rw[gW];exact bm (k*4+1) _ (by rw[iM k aG 1 (by omega)];rfl)
    have y2:wr.cell? ⟨b,o+k*4+2,none⟩=some (.int .i64 (ms[k]).bytes):=by rw[gW];exact bm (k*4+2) _ (by rw[iM k aG 2 (by omega)];rfl)
    have y3:wr.cell? ⟨b,o+k*4+3,none⟩=some (.int .u8 ((ms[k]).fill.toNat:Int)):=by rw[gW];exact bm (k*4+3) _ (by rw[iM k aG 3 (by omega)];rfl)
    have SP:Zh (∀j:Nat,k=j+1->∃z:Int,(z<(ms[k]).at_->∀m',ms[j]?=some m'->m'.at_<(ms[k]).at_)∧∀(wx:World),Holds wx Fr->wx.cell? ⟨b,o+j*4,none⟩=some (.int .i64 z)):=aa (fun j hj=>by
     have I6:j<ms.length:=by omega
     refine⟨(ms[j]).at_,fun hz m' uy=>by rw[bF I6]at uy;injection uy with uy;rw[<-uy];exact hz,fun wx hx=>?_⟩;obtain⟨_,A3,c3,kS,_,_,ac4⟩:=HV.o wx hx;injection kS with Mu Uw Mv;subst Mu;subst Mv;obtain⟨b3,o3,he,vJ⟩:=ac4 (by omega);injection he with he;injection he with Tr oU;subst Tr oU;exact vJ (j*4) _ (by rw[<-fD (j*4),iM j I6 0 (by omega)];rfl))
    have PQ:=aa (show∀m,ms[k]?=some m->m=ms[k]from fun m hm=>by rw[bF aG]at hm;injection hm with hm;exact hm.symm);generalize ms[k]=m at*;obtain⟨ma,mk,mb,mf⟩:=m;dsimp only at y0 y1 y2 y3 SP;have bM:=eh.alloc (.cells #[.int .i64 ma,.int .i64 mk,.int .i64 mb,.int .u8 (mf.toNat:Int)] 87);have cJ:=gf.alloc (.cells #[.int .i64 ma,.int .i64 mk,.int .i64 mb,.int .u8 (mf.toNat:Int)] 87);have vA:=aa aG;clear bm cm iM eh gf aG hk;go_upto_region 5 with fail
    clear y0 y1 y2 y3;generalize wr.alloc (.cells #[.int .i64 ma,.int .i64 mk,.int .i64 mb,.int .u8 (mf.toNat:Int)] 87)=wA at*;generalize wr.heap.size=t at*;have x0:=bM.ae 0;have x1:=bM.ae 1;have x2:=bM.ae 2;simp only[vO,iK,mS]at x0 x1 x2;have Jp:=aa (show(⟨ma,mk,mb,mf⟩:Mi).ok->(∀j,k=j+1->∀m',ms[j]?=some m'->m'.at_<ma)->∀i,i<k+1->MN ms i from fun h1 h2 i hi=>by
     rcases Nat.lt_or_ge i k with h|h
     ·exact Am.o i h
     ·obtain rfl:i=k:=by omega
      intro m hm;rw[PQ.o m hm];exact⟨h1,h2⟩)
    by_cases c1:ma<1
    ·go_quiet (fail)
     go_wp2_with fail
     go_ret;exact⟨false,rfl,fun h=>absurd h (by simp),bM.tail.drewN _,cJ.trans (af.dr ⟨_,rfl⟩)⟩
    ·have dc1:decide (ma<1)=false:=decide_eq_false c1;by_cases c2:1073741824<ma
     ·go_quiet (fail)
      go_wp2_with fail
      go_ret;exact⟨false,rfl,fun h=>absurd h (by simp),bM.tail.drewN _,cJ.trans (af.dr ⟨_,rfl⟩)⟩
     ·have dc2:decide (1073741824<ma)=false:=decide_eq_false c2;rcases nG k with rQ|rQ
      ·subst rQ;by_cases c4:mk=1
       ·subst c4;by_cases c6:mb<0
        ·go_quiet (fail)
         go_wp2_with fail
         go_ret;exact⟨false,rfl,fun h=>absurd h (by simp),bM.tail.drewN _,cJ.trans (af.dr ⟨_,rfl⟩)⟩
        ·have dc6:decide (mb<0)=false:=decide_eq_false c6;by_cases c7:65536<mb
         ·go_quiet (fail)
          go_wp2_with fail
          go_ret;exact⟨false,rfl,fun h=>absurd h (by simp),bM.tail.drewN _,cJ.trans (af.dr ⟨_,rfl⟩)⟩
         ·have dc7:decide (65536<mb)=false:=decide_eq_false c7
          go_quiet (fail)
          go_wp2_with fail
          exact⟨⟨0+1,by have:=vA.o;omega,by go_num,fun i hi=>Jp.o ⟨by show 1<=ma;omega,by show ma<=1073741824;omega,by first|exact aQ rfl|exact aE rfl,by show 0<=mb;omega,by show mb<=65536;omega⟩ (fun j hj=>absurd hj (by omega)) i hi,bM.tail.drewN _,cJ.trans (af.dr ⟨_,rfl⟩)⟩,by have:=vA.o;simp[intOf];omega⟩
       ·have d4:(mk==1)=false:=beq_eq_false_iff_ne.2 c4;have e4:(mk !=1)=true:=by simpa using c4
        by_cases c5:mk=2
        ·subst c5;by_cases c6:mb<0
         ·go_quiet (fail)
          go_wp2_with fail
          go_ret;exact⟨false,rfl,fun h=>absurd h (by simp),bM.tail.drewN _,cJ.trans (af.dr ⟨_,rfl⟩)⟩
         ·have dc6:decide (mb<0)=false:=decide_eq_false c6;by_cases c7:65536<mb
          ·go_quiet (fail)
           go_wp2_with fail
           go_ret;exact⟨false,rfl,fun h=>absurd h (by simp),bM.tail.drewN _,cJ.trans (af.dr ⟨_,rfl⟩)⟩
          ·have dc7:decide (65536<mb)=false:=decide_eq_false c7
           go_quiet (fail)
           go_wp2_with fail
           exact⟨⟨0+1,by have:=vA.o;omega,by go_num,fun i hi=>Jp.o ⟨by show 1<=ma;omega,by show ma<=1073741824;omega,by first|exact aQ rfl|exact aE rfl,by show 0<=mb;omega,by show mb<=65536;omega⟩ (fun j hj=>absurd hj (by omega)) i hi,bM.tail.drewN _,cJ.trans (af.dr ⟨_,rfl⟩)⟩,by have:=vA.o;simp[intOf];omega⟩
        ·have d5:(mk==2)=false:=beq_eq_false_iff_ne.2 c5;have e5:(mk !=2)=true:=by simpa using c5
         clear c4 c5
         go_quiet (fail)
         go_wp2_with fail
         go_ret;exact⟨false,rfl,fun h=>absurd h (by simp),bM.tail.drewN _,cJ.trans (af.dr ⟨_,rfl⟩)⟩
      ·obtain⟨j,rfl⟩:∃j,k=j+1:=⟨k-1,by omega⟩;obtain⟨z,hz,Ww⟩:=SP.o j rfl;have hzw:=Ww wA bM.tail;have ZF:=aa hz;obtain⟨I,hI⟩:∃I:Int,I=((j+1:Nat):Int):=⟨_,rfl⟩;have p6:(0:Int)<I:=by omega
       have u7:IntKind.i64.wrap (I-1)=(j:Int):=by rw[fu (by omega) (by have:=vA.o;omega)];omega
       have PE:wrap64 (I-1)=(j:Int):=by unfold wrap64;have:=vA.o;omega
       have hw5:IntKind.i64.wrap (I+1)=((j+2:Nat):Int):=by rw[fu (by omega) (by have:=vA.o;omega)];omega
       have hw6:wrap64 (I+1)=((j+2:Nat):Int):=by unfold wrap64;have:=vA.o;omega
       have I6:(j:Int)<ms.length:=by have:=vA.o;omega
       rw[<-hI];have HI:=aa hI;clear hz Ww rQ dQ SP hI;by_cases c3:ma<=z
       ·go_quiet (fail)
        go_wp2_with fail
        go_ret;exact⟨false,rfl,fun h=>absurd h (by simp),bM.tail.drewN _,cJ.trans (af.dr ⟨_,rfl⟩)⟩
       ·have dc3:decide (ma<=z)=false:=decide_eq_false c3;by_cases c4:mk=1
        ·subst c4;by_cases c6:mb<0
         ·go_quiet (fail)
          go_wp2_with fail
          go_ret;exact⟨false,rfl,fun h=>absurd h (by simp),bM.tail.drewN _,cJ.trans (af.dr ⟨_,rfl⟩)⟩
         ·have dc6:decide (mb<0)=false:=decide_eq_false c6;by_cases c7:65536<mb
          ·go_quiet (fail)
           go_wp2_with fail
           go_ret;exact⟨false,rfl,fun h=>absurd h (by simp),bM.tail.drewN _,cJ.trans (af.dr ⟨_,rfl⟩)⟩
          ·have dc7:decide (65536<mb)=false:=decide_eq_false c7
           go_quiet (fail)
           go_wp2_with fail
           exact⟨⟨j+1+1,by have:=vA.o;omega,rfl,fun i hi=>Jp.o ⟨by show 1<=ma;omega,by show ma<=1073741824;omega,by first|exact aQ rfl|exact aE rfl,by show 0<=mb;omega,by show mb<=65536;omega⟩ (fun j2 hj2=>by obtain rfl:j2=j:=by{omega};exact ZF.o (by omega)) i hi,bM.tail.drewN _,cJ.trans (af.dr ⟨_,rfl⟩)⟩,by have:=vA.o;simp[intOf];omega⟩
        ·have d4:(mk==1)=false:=beq_eq_false_iff_ne.2 c4;have e4:(mk !=1)=true:=by simpa using c4
         by_cases c5:mk=2
         ·subst c5;by_cases c6:mb<0
          ·go_quiet (fail)
           go_wp2_with fail
           go_ret;exact⟨false,rfl,fun h=>absurd h (by simp),bM.tail.drewN _,cJ.trans (af.dr ⟨_,rfl⟩)⟩
          ·have dc6:decide (mb<0)=false:=decide_eq_false c6;by_cases c7:65536<mb
           ·go_quiet (fail)
            go_wp2_with fail
            go_ret;exact⟨false,rfl,fun h=>absurd h (by simp),bM.tail.drewN _,cJ.trans (af.dr ⟨_,rfl⟩)⟩
           ·have dc7:decide (65536<mb)=false:=decide_eq_false c7
            go_quiet (fail)
            go_wp2_with fail
            exact⟨⟨j+1+1,by have:=vA.o;omega,rfl,fun i hi=>Jp.o ⟨by show 1<=ma;omega,by show ma<=1073741824;omega,by first|exact aQ rfl|exact aE rfl,by show 0<=mb;omega,by show mb<=65536;omega⟩ (fun j2 hj2=>by obtain rfl:j2=j:=by{omega};exact ZF.o (by omega)) i hi,bM.tail.drewN _,cJ.trans (af.dr ⟨_,rfl⟩)⟩,by have:=vA.o;simp[intOf];omega⟩
         ·have d5:(mk==2)=false:=beq_eq_false_iff_ne.2 c5;have e5:(mk !=2)=true:=by simpa using c5
          clear c4 c5
          go_quiet (fail)
          go_wp2_with fail
          go_ret;exact⟨false,rfl,fun h=>absurd h (by simp),bM.tail.drewN _,cJ.trans (af.dr ⟨_,rfl⟩)⟩
   ·have qP:¬(k:Int)<ms.length:=by omega
    obtain rfl:k=ms.length:=by omega
    clear aG hk qP;have cH:=Wn h24 Am.o;go_wp2_with fail
    go_ret;exact⟨true,by simp,fun _=>cH,eh,gf⟩
  ·have Qp:¬(ms.length:Int)<=24:=by omega
   have cH:(false=true->JK ms):=fun h=>absurd h (by simp);by_cases aG:(k:Int)<ms.length
   ·go_wp2_with fail
    go_ret;exact⟨false,by simp,cH,eh,gf⟩
   ·go_wp2_with fail
    go_ret;exact⟨false,by simp,cH,eh,gf⟩
end Go.Proofs.YtalnifciidblkaaGreatDoor
