/-
  Lemmas.
-/
import Derived.Test.YtalnifciidblkaaGreatDoorG16
namespace Go.Proofs.YtalnifciidblkaaGreatDoor
open _root_.Go.Proofs.Tryz
open Go.RowKit
set_option linter.unusedSimpArgs false
set_option linter.unusedVariables false
set_option maxRecDepth 20000
set_option maxHeartbeats 1000000
theorem jV.all{v:Value}{bk:List (List az)}{m:Int}{H:HL}(h:jV v bk m H)(h0:0<bk.length):∃b g cap,v=.pointer (some ⟨b,0,none⟩)∧bk.length<=cap∧cap<=maxLen∧
  (∀(w:World) (F:HL),Holds w (H++F)->w.cell? ⟨b,0,none⟩=some (.slice (some ⟨g,0,none⟩) bk.length cap)∧w.cell? ⟨b,1,none⟩=some (.int .i64 m))∧
  ∀(i:Nat) (es:List az),bk[i]?=some es->∃ev,(∃A c,ev=.slice A es.length c)∧∀(w:World) (F:HL),Holds w (H++F)->w.cell? ⟨g,i,none⟩=some ev∧eC w ev es:=by
 obtain⟨b,bv,Hm,rfl,hr,rfl⟩:=h;obtain⟨g,cap,c,Hi,Hr,rfl,ff,gT,_⟩:=hr.sC (bF h0);refine⟨b,g,cap,rfl,ff,gT,fun w F hH=>⟨hH.ae 0,hH.ae 1⟩,fun i es mJ=>?_⟩;obtain⟨g',L7,c',nC,ZM,Iq,_,_,_,_,⟨ev,rfl,ay⟩,ae,fg,_⟩:=hr.sC mJ;injection Iq with Iq _ _;injection Iq with Iq;injection Iq with Iq;subst Iq;refine⟨ev,ay.val,fun w F hH=>?_⟩;have h1:Holds w (Hm++F):=Holds.right (A:=[(b,Obj.cells #[.slice (some ⟨g,0,none⟩) bk.length cap,.int .i64 m] 173)]) (by simpa using hH);have h2:=fg w F h1;have h3:=((ae w F h2.right).2 0 (by omega)).1;rw[jc,fD]at h3;exact⟨by simpa using h3,ay.at_ h2⟩
def ad1(bk:List (List az))(m:Int)(c:Value)(w:World)(F:HL)(i:Value)(wr:World):Prop:=
 ∃(k:Nat) (Hk:HL),k<=bk.length∧i=.int .i64 k∧jV c (bk.take k) m Hk∧Holds wr (Hk++F)∧af w wr
theorem Nz(v:Value)(L:List az)(H Fr:HL)(w:World)(hv:IsTable v L H)(hH:Holds w (H++Fr)):
  Calls Tryz.prog 97 #[v] w (cB (fun v' H'=>IsTable v' L H') w (H++Fr)):=by
 obtain⟨bk,p8,cj,hlL⟩:=hv;have tP:=cj.pos;have hle:=cj.le;obtain⟨b,g,cap,rfl,ff,gT,ae,eB⟩:=p8.all tP;obtain⟨c1,c2⟩:=ae w Fr hH;have sr:=aa eB;have lR:=aa cj;have hHz:=hH.alloc (.cells #[.slice none 0 0,.int .i64 (L.length:Int)] 173);have jD:=(af.refl w).alloc (.cells #[.slice none 0 0,.int .i64 (L.length:Int)] 173);obtain⟨d1,d2⟩:=ae _ _ hHz.tail;have HHZ:=aa hHz;obtain⟨n,hn⟩:∃n,n=bk.length:=⟨_,rfl⟩;have HN:=aa hn;rw[<-hn]at tP hle ff c1 d1;have ahq:∀(k:Nat) (es:List az),bk[k]?=some es->es.length<=L.length:=fun k es hk=>by
  have h1:=cj.perm.length_eq;have h2:=congrArg List.length (fm bk _ _ hk);rw[aY,aY]at h2;omega
 have Xl:=aa ahq;clear ae eB hHz hn p8 hH cj ahq;go_enter func97,ntmps97;go_wp2_with fail
 go_loopw [19] (fun i wr=>ad1 bk L.length (.pointer (some ⟨w.heap.size,0,none⟩)) w (H++Fr) i wr) (fun i _=>n-(intOf i).toNat)
 case atStart=>exact⟨0,_,by omega,rfl,⟨_,_,[],rfl,eK.nil _ _ _,rfl⟩,by simpa using HHZ.o,jD⟩
 case round=>
  clear d1 d2 c1 c2;obtain⟨k,Hk,hk,rfl,hkt,LS,SI⟩:=hrel;rw[<-HN.o]at hk;by_cases aG:k<n
  ·have hx:bk[k]?=some bk[k]:=bF (by rw[<-HN.o];exact aG);have Oj:=Xl.o k _ hx;have oT:bk.take (k+1)=bk.take k++[bk[k]]:=gB (by rw[<-HN.o];exact aG);obtain⟨ev,⟨Ae,ce,rfl⟩,Ay⟩:=sr.o k _ hx;have HEV:=aa Ay;have jP:=aa oT;obtain⟨e1,_⟩:=Ay wr (Hk++Fr) LS.swap;have Dn:(bk.take k).length=k:=by rw[dG,<-HN.o];omega
   clear hx Ay oT;generalize bk[k]=es at*;generalize bk.take k=bt at*;obtain⟨z,bv,Hm,hz,hr,rfl⟩:=hkt;injection hz with hz;injection hz with hz;injection hz with hz;subst hz;obtain⟨cells,H0,H1,rfl,ay,X1,kM⟩:=hr.Gv;have H1C:=aa (Qd.one_cell X1);have pd:=aa kM;have jm:=aa ay;obtain⟨A2,c2,rfl⟩:=ay.val;have HKL:=aa Dn;rw[Dn]at jm LS;clear Dn;have HS:=aa (fun(wx:World) (HH:HL) (hx:Holds wx HH) (hm:(w.heap.size,Obj.cells #[.slice A2 k c2,.int .i64 (L.length:Int)] 173)∈HH)=>aS (hx.cell hm 0) (hx.frozen hm 0));clear hr X1 kM ay;go_wp2_with fail
   go_upto_region 7 with fail
   refine aF (fun wx=>wx.cell? ⟨w.heap.size,0,none⟩=some (.slice A2 k c2)∧wx.frozen? ⟨w.heap.size,0,none⟩=false) 11 (by kernel_rfl) (fun w1 hd=>HS.o _ _ (LS.dr hd) (by simp)) (fun w1 hd hs=>?_);have aB:=LS.dr hd;have cY:=SI.trans (af.dr hd);clear hd LS SI;refine dY 0 1 2 3 ?_;refine qL 4 5 ?_;refine Zm 6 fun K hK=>?_;go_simp;refine(KS (.slice Ae es.length ce) es w1 _ (HEV.o w1 _ aB.swap).2 aB (by omega)).mono ?_;rintro e w3 ⟨v3,H3,rfl,jF,aD,bj⟩;obtain⟨A3,q3,rfl⟩:=jF.val;refine hK _ _ (HS.o _ _ aD (by simp)) (fun _=>?_);clear hK K hs;rename_i hs;refine Zm 7 fun K hK=>?_;go_simp;refine hK _ _ (HS.o _ _ (aD.alloc _) (by simp)) (fun _=>?_);clear hK K hs;rename_i hs;refine Zm 8 fun K hK=>?_;refine bf MF (by rfl) _ _ (by rfl) (by rfl) (by rfl) jm.o (Fr:=H3++((w.heap.size,.cells #[.slice A2 k c2,.int .i64 (L.length:Int)] 173)::(H1++(H++Fr)))) ((aD.bP _).p) ag.one (by simp[Value.oneCell']) (by simp[maxLen];omega) (by omega) ?_;intro A' c3 w' H' jT bC bV;refine hK _ _ (HS.o _ _ bC (by simp)) (fun _=>?_);clear hK K hs;rename_i hs;refine qL 9 10 ?_;refine Zl 11 fun K hK=>?_;go_simp;refine hK _ _ ?_;clear hK K hs;refine Ze ?_;have hz:=Holds.ej (H:=H'++(H1++(H3++(H++Fr)))) (show Holds w' ((w.heap.size,.cells #[.slice A2 k c2,.int .i64 (L.length:Int)] 173)::(H'++(H1++(H3++(H++Fr)))))from bC.p) 0 (.slice A' (k+1) c3);have aat:=pd.o _ _ [_] es H3 rfl ⟨_,rfl,jF⟩ (by rw[HKL.o];exact jT);have dN:jV (.pointer (some ⟨w.heap.size,0,none⟩)) (bt++[es]) L.length ((w.heap.size,.cells #[.slice A' (k+1) c3,.int .i64 (L.length:Int)] 173)::(H'++(H1++H3))):=⟨_,_,_,rfl,aat,rfl⟩;have dJ:=(((cY.trans bj).alloc _).trans bV).setCell ⟨w.heap.size,0,none⟩ (.slice A' (k+1) c3);have Iv:=aa dN;have HZ:=aa hz;clear dN aat hz bC bV jT jF aD bj aB cY;go_wp2_with fail
   exact⟨⟨k+1,_,by rw[<-HN.o];omega,by go_num,by rw[jP.o];exact Iv.o,by simpa using HZ.o,dJ⟩,by simp[intOf];omega⟩
  ·have zN:k=bk.length:=by rw[<-HN.o];omega
   subst zN;rw[fB]at hkt;have HKT:=aa hkt;clear hkt;go_wp2_with fail
   go_ret;exact⟨_,Hk,rfl,⟨bk,HKT.o,lR.o,hlL⟩,LS,SI⟩
def sw(L:List az)(s:Nat)(a:Int):Bool:=match L[s]? with|some e=>decide (e.addr=a)|none=>false
section
variable{L:List az}{s:Nat}{a:Int}
theorem mX.take(h:mX L s a):∀x∈L.take s,x.addr<a:=fun x hx=>by
 obtain⟨i,hi,rfl⟩:=List.mem_iff_getElem.1 hx;rw[dG]at hi;rw[List.getElem_take];exact(h i (by omega)).1 (by omega)
theorem mX.drop(h:mX L s a):∀x∈L.drop s,a<=x.addr:=fun x hx=>by
 obtain⟨i,hi,rfl⟩:=List.mem_iff_getElem.1 hx;rw[dA]at hi;rw[List.getElem_drop];have:=mt (h (s+i) (by omega)).2 (by omega);omega
theorem mX.PX(h:mX L s a)(hi:eU L)(hh:sw L s a=true):∃hs:s<L.length,L[s].addr=a∧L=L.take s++L[s]::L.drop (s+1)∧(∀x∈L.drop (s+1),a<x.addr):=by
 unfold sw at hh;cases hx:L[s]? with
 |none=>rw[hx]at hh;cases hh
 |some e=>
  rw[hx]at hh;obtain⟨hs,he⟩:=List.getElem?_eq_some_iff.1 hx;have ha:L[s].addr=a:=by rw[he];exact of_decide_eq_true hh
  refine⟨hs,ha,?_,fun x hx=>?_⟩
  ·conv=>lhs;rw[<-oz s L]
   rw[nF hs]
  ·obtain⟨i,tJ,rfl⟩:=List.mem_iff_getElem.1 hx;rw[dA]at tJ;rw[List.getElem_drop];have:=List.pairwise_iff_getElem.1 hi s (s+1+i) hs (by omega) (by omega);omega
theorem mX.ahs(h:mX L s a)(hi:eU L)(hh:sw L s a=false):∀x∈L.drop s,a<x.addr:=fun x hx=>by
 have h1:=h.drop x hx;rcases Int.lt_or_eq_of_le h1 with h2|h2
 ·exact h2
 ·exfalso;obtain⟨i,tJ,rfl⟩:=List.mem_iff_getElem.1 hx;rw[dA]at tJ;rw[List.getElem_drop]at h2;have hs:s<L.length:=by omega
  have h3:=mt (h s hs).2 (by omega);have h4:L[s].addr=a:=by
   rcases nG i with h5|h5
   ·subst h5;simpa using h2.symm
   ·have:=List.pairwise_iff_getElem.1 hi s (s+i) hs (by omega) (by omega);omega
  unfold sw at hh;rw[bF hs]at hh;exact absurd h4 (of_decide_eq_false hh)
theorem Kf(h:mX L s a)(hi:eU L)(hh:sw L s a=true):eL a L=L[s]?:=by
 obtain⟨hs,ha,_⟩:=h.PX hi hh;rw[bF hs,<-ha];exact yI hi (cX hs)
theorem yM(h:mX L s a)(hi:eU L)(hh:sw L s a=false):eL a L=none:=by
 refine jA.2 fun x hx=>?_;rw[<-oz s L,lZ]at hx;rcases hx with hx|hx
 ·have:=h.take x hx;omega
 ·have:=h.ahs hi hh x hx;omega
theorem filter_all{p:az->Bool}{l:List az}(h:∀x∈l,p x=true):l.filter p=l:=List.filter_eq_self.2 h
theorem filter_none{p:az->Bool}{l:List az}(h:∀x∈l,p x=false):l.filter p=[]:=List.filter_eq_nil_iff.2 fun x hx=>by rw[h x hx];exact Bool.false_ne_true
theorem YV{e:az}(h:mX L s e.addr)(hi:eU L)(hh:sw L s e.addr=true):fV L e=L.set s e:=by
 obtain⟨hs,ha,hL,DL⟩:=h.PX hi hh;have bz:L.set s e=L.take s++e::L.drop (s+1):=by rw[List.set_eq_take_append_cons_drop,if_pos hs]
 rw[bz];have h1:L.filter (fun x=>decide (x.addr<e.addr))=L.take s:=by
  conv=>lhs;rw[hL]
  rw[oA,filter_all (fun x hx=>decide_eq_true (h.take x hx)),filter_none,kZ];intro x hx;rcases List.mem_cons.1 hx with rfl|hx
  ·exact decide_eq_false (by omega)
  ·have:=DL x hx;exact decide_eq_false (by omega)
 have h2:L.filter (fun x=>decide (e.addr<x.addr))=L.drop (s+1):=by
  conv=>lhs;rw[hL]
  rw[oA,filter_none (fun x hx=>decide_eq_false (by have:=h.take x hx;omega)),jS,qd (by simp;omega),filter_all];exact fun x hx=>decide_eq_true (DL x hx)
 unfold fV;rw[h1,h2]
theorem V6{e:az}(h:mX L s e.addr)(hi:eU L)(hh:sw L s e.addr=false):fV L e=L.take s++e::L.drop s:=by
 have hm:=h.ahs hi hh;have h1:L.filter (fun x=>decide (x.addr<e.addr))=L.take s:=by
  conv=>lhs;rw[<-oz s L]
  rw[oA,filter_all (fun x hx=>decide_eq_true (h.take x hx)),filter_none,kZ];exact fun x hx=>decide_eq_false (by have:=hm x hx;omega)
 have h2:L.filter (fun x=>decide (e.addr<x.addr))=L.drop s:=by
  conv=>lhs;rw[<-oz s L]
  rw[oA,filter_none (fun x hx=>decide_eq_false (by have:=h.take x hx;omega)),jS,filter_all];exact fun x hx=>decide_eq_true (hm x hx)
 unfold fV;rw[h1,h2]
theorem V7(h:mX L s a)(hi:eU L)(hh:sw L s a=true):iO L a=L.take s++L.drop (s+1):=by
 obtain⟨hs,ha,hL,DL⟩:=h.PX hi hh;unfold iO
 conv=>lhs;rw[hL]
 rw[oA,filter_all (fun x hx=>decide_eq_true (by have:=h.take x hx;omega)),qd (by simpa using ha),filter_all];exact fun x hx=>decide_eq_true (by have:=DL x hx;omega)
theorem RC(h:mX L s a)(hi:eU L)(hh:sw L s a=false):iO L a=L:=by
 have:=jA.1 (yM h hi hh);exact filter_all fun x hx=>decide_eq_true (this x hx)
end
def mR(v:Value)(L:List az)(H:HL):Prop:=eU L∧(∀e∈L,0<=e.addr)∧L.length<=200000∧∃b sv Hs,v=.pointer (some ⟨b,0,none⟩)∧aP sv L Hs∧H=(b,.cells #[sv] 70)::Hs
theorem mR.ptr{v:Value}{L:List az}{H:HL}(h:mR v L H):∃b,v=.pointer (some ⟨b,0,none⟩):=by obtain⟨_,_,_,b,_,_,h,_⟩:=h;exact⟨b,h⟩
theorem mR.inc{v:Value}{L:List az}{H:HL}(h:mR v L H):eU L:=h.1
theorem mR.le{v:Value}{L:List az}{H:HL}(h:mR v L H):L.length<=200000:=h.2.2.1
theorem mR.look{v:Value}{L:List az}{H Fr:HL}{w:World}(h:mR v L H)(hH:Holds w (H++Fr)):∃b A c,v=.pointer (some ⟨b,0,none⟩)∧w.cell? ⟨b,0,none⟩=some (.slice A L.length c)∧L.length<=c∧c<=maxLen∧eC w (.slice A L.length c) L∧
  (0<L.length->∃bb oo,A=some ⟨bb,oo,none⟩∧∀i (hi:i<L.length),wM w bb (oo+i*4) L[i]):=by
 obtain⟨_,_,_,b,sv,Hs,rfl,ay,rfl⟩:=h;obtain⟨A,c,rfl⟩:=ay.val;have Jd:=ay.at_ (w:=w) (Fr:=(b,.cells #[.slice A L.length c] 70)::Fr) (Holds.swap (A:=[_]) hH);obtain⟨A',c',hv,h1,h2,h3⟩:=Jd.cells;injection hv with gM _ kS;subst gM kS;exact⟨b,A,c,rfl,hH.ae 0,h1,h2,Jd,h3⟩
def anS(L:List az)(a:Int)(w:World)(i:Value)(wr:World):Prop:=∃(k q:Nat),k<=L.length∧i=.int .i64 k∧(∀j (h:j<L.length),j<k->L[j].addr<a)∧wr=w.drewN q
def ajm(L:List az)(a:Int)(w:World)(e:Ending)(w':World):Prop:=(∃s,s<=L.length∧mX L s a∧e=.returned (.tuple #[.int .i64 s,.bool (sw L s a)]))∧∃n,w'=w.drewN n
theorem Ft(v:Value)(L:List az)(a:Int)(H Fr:HL)(w:World)(h:mR v L H)(hH:Holds w (H++Fr)):Calls Tryz.prog 236 #[v,.int .u64 a] w (ajm L a w):=by
 have hi:=h.inc;have hle:=h.le;obtain⟨b,A,c,rfl,hc,ff,gT,Jd,AV⟩:=h.look hH;unfold maxLen at gT;have HI:=aa hi;have HC:=aa hc;have HCE:=aa AV;clear h hH Jd hi hc AV;obtain⟨n,hn⟩:∃n,n=L.length:=⟨_,rfl⟩;have HN:=aa hn;rw[<-hn]at hle HC ff;clear hn;go_enter func236,ntmps236;go_wp2_with fail
 go_loopw [6] (fun i wr=>anS L a w i wr) (fun i _=>n-(intOf i).toNat)
 case atStart=>exact⟨0,0,by omega,rfl,fun j _ h=>by omega,rfl⟩
 case round=>
  obtain⟨k,q,hk,rfl,aG,rfl⟩:=hrel;rw[<-HN.o]at hk;have vA:=aa aG;have ae:=HC.o;clear aG;by_cases zN:k<n
  ·have hkL:k<L.length:=by rw[<-HN.o];exact zN
   obtain⟨bb,oo,rfl,LH⟩:=HCE.o (by rw[<-HN.o];omega);obtain⟨d0,_⟩:=LH k hkL;have HX:=aa (show L[k]=L[k]from rfl);clear LH;by_cases hx:L[k].addr<a
   ·have HX1:Zh (∀j (h:j<L.length),j=k->L[j].addr<a):=aa (fun j h e=>by subst e;exact hx);generalize hxa:L[k].addr=x at*;have hdx:decide (x<a)=true:=decide_eq_true hx;clear hxa;go_wp2_with fail
    go_roundw
    case rel=>
     refine⟨k+1,q,by rw[<-HN.o];omega,by go_num,fun j hj qE=>?_,rfl⟩;rcases Nat.lt_or_ge j k with h|h
     ·exact vA.o j hj h
     ·exact HX1.o j hj (by omega)
    case measure=>simp[intOf]<;>omega
   ·have rZ:Zh (mX L k a):=aa (by
     intro j hj;refine⟨fun h=>vA.o j hj h,fun h=>?_⟩;rcases Nat.lt_or_ge j k with h2|h2
     ·exact h2
     ·rcases Nat.eq_or_lt_of_le h2 with h3|h3
      ·subst h3;omega
      ·have:=List.pairwise_iff_getElem.1 HI.o k j hkL hj h3;omega)
    have aht:sw L k a=decide (L[k].addr=a):=by unfold sw;rw[bF hkL]
    have acw:=aa aht;clear aht HX;generalize L[k].addr=x at*;go_wp2_with fail
    go_upto_region 4 with fail
    refine aF (fun wx=>wx.cell? ⟨b,0,none⟩=some (.slice (some ⟨bb,oo,none⟩) n c)∧wx.cell? ⟨bb,oo+k*4,none⟩=some (.int .u64 x)) 22 (by kernel_rfl) (fun w1 hd=>by obtain⟨q,rfl⟩:=hd;exact⟨ae,d0⟩) (fun w1 hd hs=>?_);obtain⟨nq,rfl⟩:=hd;refine dY 0 1 2 3 ?_;refine dY 4 5 6 7 ?_;refine dY 8 9 10 11 ?_;refine dY 12 13 14 15 ?_;refine dY 16 17 18 19 ?_;refine qL 20 21 ?_;refine Ze ?_;go_wp2_with fail
    go_ret2
    exact⟨⟨k,by rw[<-HN.o];exact hk,rZ.o,by rw[acw.o];rfl⟩,_,World.drewN_drewN _ _ _⟩
  ·have hkL:k=L.length:=by rw[<-HN.o];omega
   have rZ:Zh (mX L k a):=aa (by
    intro j hj;exact⟨fun h=>vA.o j hj h,fun h=>by omega⟩)
   have acw:Zh (sw L k a=false):=aa (by unfold sw;rw[List.getElem?_eq_none (by omega)]);clear hkL;go_wp2_with fail
   go_upto_region 4 with fail
   refine aF (fun wx=>wx.cell? ⟨b,0,none⟩=some (.slice A n c)∧wx.cell? ⟨b,0,none⟩=some (.slice A n c)) 22 (by kernel_rfl) (fun w1 hd=>by obtain⟨q,rfl⟩:=hd;exact⟨ae,ae⟩) (fun w1 hd hs=>?_);obtain⟨nq,rfl⟩:=hd;refine dY 0 1 2 3 ?_;refine dY 4 5 6 7 ?_;refine ji 8 ?_;refine Zs 9 37 rfl hs ?_;simp only[pt,sA,sS,sZ];refine Zs 10 38 rfl hs ?_;simp only[pt,sA,sS,sZ];refine Zs 11 39 rfl hs ?_;simp only[pt,sA,sS,sZ];refine Zs 12 40 rfl hs ?_;simp only[pt,sA,sS,sZ];refine Zs 13 41 rfl hs ?_;simp only[pt,sA,sS,sZ];refine Zs 14 42 rfl hs ?_;simp only[pt,sA,sS,sZ];refine Zs 15 43 rfl hs ?_;simp only[pt,sA,sS,sZ];refine Zs 16 44 rfl hs ?_;simp only[pt,sA,sS,sZ];refine Zs 17 45 rfl hs ?_;simp only[pt,sA,sS,sZ];refine Zs 18 46 rfl hs ?_;simp only[pt,sA,sS,sZ];refine Ag 19 20 21 ?_;refine Ze ?_;go_wp2_with fail
   go_ret2
   exact⟨⟨k,by rw[<-HN.o];exact hk,rZ.o,by rw[acw.o];rfl⟩,_,World.drewN_drewN _ _ _⟩
theorem aP.parts{v:Value}{L:List az}{H:HL}(h:aP v L H):(v=.slice none 0 0∧L=[]∧H=[])∨∃g cap,v=.slice (some ⟨g,0,none⟩) L.length cap∧L.length<=cap∧cap<=maxLen∧∀k,k<=L.length->
  (∀(wx:World) (F:HL),Holds wx (H++F)->ag wx 4 (.slice (some ⟨g,0,none⟩) k cap) k (cQ (L.take k)))∧
  ∃oi,(if cap=k then some (⟨g,0,none⟩:Addr)else some ⟨g,k*4,none⟩)=some ⟨g,oi,none⟩∧∀(wx:World) (F:HL),Holds wx (H++F)->ag wx 4 (.slice (some ⟨g,oi,none⟩) (L.length-k) (cap-k)) (L.length-k) (cQ (L.drop k)):=by
 obtain⟨hl,⟨rfl,h0,rfl⟩|⟨g,cap,cur,fz,rfl,hn,hc,hcz,ht,hf,rfl⟩⟩:=h
 ·exact .inl ⟨rfl,jW h0,rfl⟩
 ·refine .inr ⟨g,cap,rfl,hn,hc,fun k hk=>⟨fun wx F hx=>?_,?_⟩⟩
  ·have hx:Holds wx ((g,.cells cur 24 fz)::F):=by simpa using hx
   refine⟨by rw[eu,dG];omega,_,_,rfl,by omega,hc,fun h0=>⟨g,0,rfl,fun j u hu=>?_⟩⟩;have hj:j<(cQ (L.take k)).length:=(List.getElem?_eq_some_iff.1 hu).1;rw[eu,dG]at hj;rw[hx.ae,fp];rw[Fh,<-ht,List.take_take,uc (by omega),lE,if_pos (by omega)]at hu;rw[<-Array.getElem?_toList];exact hu
  ·obtain⟨oi,hoi,ack⟩:∃oi,(if cap=k then some (⟨g,0,none⟩:Addr)else some ⟨g,k*4,none⟩)=some ⟨g,oi,none⟩∧(0<L.length-k->oi=k*4):=by
    by_cases h:cap=k
    ·exact⟨0,by rw[if_pos h],by omega⟩
    ·exact⟨_,by rw[if_neg h],fun _=>rfl⟩
   refine⟨oi,hoi,fun wx F hx=>?_⟩;have hx:Holds wx ((g,.cells cur 24 fz)::F):=by simpa using hx
   refine⟨by rw[eu,dA],_,_,rfl,by omega,by omega,fun h0=>⟨g,oi,rfl,fun j u hu=>?_⟩⟩;rw[ack h0];have hj:j<(cQ (L.drop k)).length:=(List.getElem?_eq_some_iff.1 hu).1;rw[eu,dA]at hj;rw[hx.ae];rw[Fi,List.getElem?_drop,<-ht,lE,if_pos (by omega)]at hu;rw[<-Array.getElem?_toList];exact hu
theorem K4(v:Value)(L:List az)(a:Int)(H Fr:HL)(w:World)(h:mR v L H)(hH:Holds w (H++Fr)):Calls Tryz.prog 198 #[v,.int .u64 a] w (mu (fun H'=>mR v (iO L a) H') (mo (eL a L)) w Fr):=by
 have fU:=hH.alloc (.cells #[.int .u64 0,.int .i64 0,.bool false,.int .i64 0] 24);have LU:=aa (Ft v L a H Fr _ h fU.tail);have HF:=aa fU;have HR:=aa h;have hi:=h.inc;obtain⟨h1,h2,h3,b,sv,Hs,rfl,ay,rfl⟩:=h;have DQ:=aa h2;have HI:=aa hi;clear h1 hi fU h2;go_enter func198,ntmps198;go_wp2_with fail
 refine LU.o.mono ?_;rintro e w2⟨⟨s,hs,hcut,rfl⟩,q,rfl⟩;have aB:=HF.o.drewN q;have aX:=((af.refl w).alloc (.cells #[.int .u64 0,.int .i64 0,.bool false,.int .i64 0] 24)).drewN q;generalize(w.alloc (.cells #[.int .u64 0,.int .i64 0,.bool false,.int .i64 0] 24)).drewN q=w2 at*;have Oi:=aa aB;have z0:=aB.ae 0;have z1:=aB.ae 1;have z2:=aB.ae 2;have z3:=aB.ae 3;have y0:=aB.ah 0;have y1:=aB.ah 1;have y2:=aB.ah 2;have y3:=aB.ah 3;have HG:=aa aX;have rZ:=aa hcut;clear LU aB aX HF hcut;cases hh:sw L s a with
 |false=>
  have HX:=aa (yM rZ.o HI.o hh);have HD:=aa (RC rZ.o HI.o hh);have HS:Zh (∀x:az,Holds ((((w2.setCell ⟨w.heap.size,0,none⟩ (.int .u64 x.addr)).setCell ⟨w.heap.size,1,none⟩ (.int .i64 x.aW)).setCell ⟨w.heap.size,2,none⟩ (.bool x.bR)).setCell ⟨w.heap.size,3,none⟩ (.int .i64 x.seq)) (((b,.cells #[sv] 70)::Hs)++Fr)∧
    af w ((((w2.setCell ⟨w.heap.size,0,none⟩ (.int .u64 x.addr)).setCell ⟨w.heap.size,1,none⟩ (.int .i64 x.aW)).setCell ⟨w.heap.size,2,none⟩ (.bool x.bR)).setCell ⟨w.heap.size,3,none⟩ (.int .i64 x.seq))):=aa fun x=>
   ⟨((((Oi.o.ej 0 _).ej 1 _).ej 2 _).ej 3 _).tail,(((HG.o.setCell _ _).setCell _ _).setCell _ _).setCell _ _⟩
  clear hh;go_wp2_with fail
  refine⟨rfl,mo none,(by rw[results_cell_tmp rfl];go_simp;rfl),by rw[HX.o],_,by rw[HD.o];exact HR.o,HS.o az.zero⟩
 |true=>
  obtain⟨IU,hq⟩:=rZ.o.PX HI.o hh;clear hq;have HX:=aa (Kf rZ.o HI.o hh);have HD:=aa (V7 rZ.o HI.o hh);rw[bF IU]at HX;obtain⟨b',A,c,hb,hc,ff,gT,Jd,AV⟩:=HR.o.look Oi.o.tail;injection hb with hb;injection hb with hb;injection hb with hb;subst hb;obtain⟨bb,oo,rfl,LH⟩:=AV (by omega);obtain⟨d0,d1,d2,d3⟩:=LH s IU;rcases ay.parts with⟨_,DY,_⟩|⟨g,cap,rfl,PC,nO,Dz⟩
  ·rw[DY]at IU;simp at IU
  obtain⟨rH,_⟩:=Dz s (by omega);obtain⟨_,oi,hoi,sk⟩:=Dz (s+1) (by omega);have hcb:w2.cell? ⟨b,0,none⟩=some (.slice (some ⟨g,0,none⟩) L.length cap):=Oi.o.tail.ae 0;rw[hcb]at hc;injection hc with hc;injection hc with gM _ kS;injection gM with gM;injection gM with gM mg;subst gM mg kS;have hlen:(cQ (L.take s)++cQ (L.drop (s+1))).length=(L.length-1)*4:=by rw[aY,eu,eu,dG,dA];omega
  have Lr:=aa rH;have HP2:=aa sk;have anT:=aa (HI.o.drop a);have anU:=aa (show∀e∈iO L a,0<=e.addr from fun e he=>DQ.o e (qx.1 he).1);have HDL:=aa (show(iO L a).length=s+(L.length-(s+1)) by rw[HD.o,aY,dG,dA];omega);have dj:Zh (∀(wx:World) (X F:HL),Holds wx (X++((b,.cells #[.slice (some ⟨g,0,none⟩) L.length cap] 70)::F))->wx.cell? ⟨b,0,none⟩=some (.slice (some ⟨g,0,none⟩) L.length cap)∧wx.frozen? ⟨b,0,none⟩=false):=aa fun wx X F hx=>⟨hx.right.ae 0,hx.right.ah 0⟩;clear AV LH Jd hh Dz rH sk ay;unfold maxLen at gT nO;generalize L[s]=x at*;obtain⟨x0,x1,x2,x3⟩:=x;simp only[fp]at d0 d1 d2 d3;generalize IE:L.length=n at*;have nW:=aa IE;clear IE;have lY:Holds (w2.alloc (.cells #[.int .u64 x0,.int .i64 x1,.bool x2,.int .i64 x3] 24)) ([]++((b,.cells #[.slice (some ⟨g,0,none⟩) n cap] 70)::(Hs++((w.heap.size,.cells #[.int .u64 0,.int .i64 0,.bool false,.int .i64 0] 24)::((w2.heap.size,.cells #[.int .u64 x0,.int .i64 x1,.bool x2,.int .i64 x3] 24)::Fr))))):=(Oi.o.alloc (.cells #[.int .u64 x0,.int .i64 x1,.bool x2,.int .i64 x3] 24)).p;have ZC:=HG.o.alloc (.cells #[.int .u64 x0,.int .i64 x1,.bool x2,.int .i64 x3] 24);clear z0 z1 z2 z3 y0 y1 y2 y3;have hsc:s<=cap:=by omega
  have u7:IntKind.i64.wrap ((s:Int)+1)=(s:Int)+1:=by simp only[IntKind.wrap,IntKind.signed,IntKind.bits];simp;omega
  have hto:((s:Int)+1).toNat=s+1:=by omega
  go_wp2_with fail
  go_upto_region 5 with fail
  refine aF (fun wx=>wx.cell? ⟨b,0,none⟩=some (.slice (some ⟨g,0,none⟩) n cap)∧wx.frozen? ⟨b,0,none⟩=false) 18 (by kernel_rfl) (fun w1 hd=>dj.o _ _ _ (lY.dr hd)) (fun w1 hd hs=>?_);have aD:=lY.dr hd;have cf:=ZC.trans (af.dr hd);clear hd lY ZC;refine dY 0 1 2 3 ?_;refine dY 4 5 6 8 ?_;refine dY 9 10 11 12 ?_;refine ji 13 ?_;refine Zt 14 39 (.slice (some ⟨g,oi,none⟩) (n-(s+1)) (cap-(s+1))) rfl hs ?_ ?_
  ·intro wx hx;obtain⟨s1,s2⟩:=hx;go_simp;intro h;exact absurd (h (by omega)) (by omega)
  simp only[pt,sA,sS,sZ];refine Zm 7 fun K hK=>?_;refine bf ix (by rfl) _ _ (by rfl) (by rfl) (by rfl) (au.nil _ _) aD (Lr.o w1 _ (Holds.swap (A:=[_]) aD)) gH (by simp[maxLen];omega) (by omega) ?_;intro A5 c5 w5 H5 oD bg dJ;rw[fp]at oD;rw[fp];refine hK _ _ (dj.o _ _ _ bg) (fun _=>?_);clear hK K hs;rename_i hs;refine Zm 15 fun K hK=>?_;refine bf ix (by rfl) _ _ (by rfl) (by rfl) (by rfl) oD bg (HP2.o w5 _ (Holds.swap (A:=H5++[_]) (by simpa using bg))) gH (by simp[maxLen];omega) (by omega) ?_;intro A6 c6 w6 H6 gE bC eJ;refine hK _ _ (dj.o _ _ _ bC) (fun _=>?_);clear hK K hs;rename_i hs;refine qL 16 17 ?_;refine Zl 18 fun K hK=>?_;go_simp;refine hK _ _ ?_;clear hK K hs;refine Ze ?_;have zT:aP (.slice A6 (s+(n-(s+1))) c6) (iO L a) H6:=by
   unfold aP;rw[HDL.o,HD.o,eM];exact gE
  have FW:Holds (w6.setCell ⟨b,0,none⟩ (.slice A6 (s+(n-(s+1))) c6)) ((b,.cells #[.slice A6 (s+(n-(s+1))) c6] 70)::(H6++(Hs++((w.heap.size,.cells #[.int .u64 0,.int .i64 0,.bool false,.int .i64 0] 24)::((w2.heap.size,.cells #[.int .u64 x0,.int .i64 x1,.bool x2,.int .i64 x3] 24)::Fr))))):=(Holds.swap (A:=H6) (B:=[_]) (by simpa using bC)).ej 0 _;have PT:=((cf.trans dJ).trans eJ).setCell ⟨b,0,none⟩ (.slice A6 (s+(n-(s+1))) c6);generalize w6.setCell ⟨b,0,none⟩ (.slice A6 (s+(n-(s+1))) c6)=w7 at*;have LO:=aa (show mR (.pointer (some ⟨b,0,none⟩)) (iO L a) ((b,.cells #[.slice A6 (s+(n-(s+1))) c6] 70)::H6)from⟨anT.o,anU.o,by rw[HDL.o];omega,b,_,H6,rfl,zT,rfl⟩);have hz:=FW.tail.right.right;obtain⟨j0,j1,j2,j3,j4,j5,j6,j7,dN⟩:=vX (e:=⟨0,0,false,0⟩) (A:=((b,.cells #[.slice A6 (s+(n-(s+1))) c6] 70)::H6)++Hs) (by simpa[js]using FW);have l0:=hz.tail.ae 0;have l1:=hz.tail.ae 1;have l2:=hz.tail.ae 2;have l3:=hz.tail.ae 3;have fj:=aa (dN ⟨x0,x1,x2,x3⟩);have IM:=aa (PT.jb w.heap.size 0 ⟨x0,x1,x2,x3⟩);clear dN hz FW zT gE oD aD cf bg dJ bC eJ PT hs;go_wp2_with fail
  refine⟨rfl,mo (some ⟨x0,x1,x2,x3⟩),(by rw[results_cell_tmp rfl];go_simp;rfl),by rw[HX.o],_,LO.o,?_,IM.o⟩;exact Holds.DD (B:=[_]) (Holds.DD (Holds.assoc fj.o))
theorem ag.ahu{w:World}:ag w 4 (.slice none 0 0) 0 []:=⟨rfl,none,0,rfl,aN _,by simp[maxLen],fun h=>absurd h (by omega)⟩
theorem ND(v:Value)(L:List az)(e:az)(H Fr:HL)(w:World)(h:mR v L H)(hH:Holds w (H++Fr))(h0:0<=e.addr)(hl:L.length<200000):
  Calls Tryz.prog 199 #[v,e.agg] w (mu (fun H'=>mR v (fV L e) H') (mo (eL e.addr L)) w Fr):=by
 have fU:=(hH.alloc (.cells (js e) 24)).alloc (.cells (js az.zero) 24);rw[World.size_alloc]at fU;have LU:=aa (Ft v L e.addr H Fr _ h fU.tail.tail);have HF:=aa fU;have HR:=aa h;have hi:=h.inc;obtain⟨h1,h2,h3,b,sv,Hs,rfl,ay,rfl⟩:=h;have DQ:=aa h2;have HI:=aa hi;have HE:=aa (rfl:e=e);clear h1 hi fU h2;have LD:=aa (show∀x∈fV L e,0<=x.addr from fun x hx=>by
  rcases iS.1 hx with rfl|⟨hx,_⟩
  ·exact h0
  ·exact DQ.o x hx)
 have LN:=aa (HI.o.put e);have od:=aa (GL HI.o e);obtain⟨e0,e1,e2,e3⟩:=e;simp only[js,az.agg,az.zero]at*;go_enter func199,ntmps199;go_wp2_with fail
 refine LU.o.mono ?_;rintro e w2⟨⟨s,hs,hcut,rfl⟩,q,rfl⟩;have aB:=HF.o.drewN q;have aX:=(((af.refl w).alloc (.cells #[.int .u64 e0,.int .i64 e1,.bool e2,.int .i64 e3] 24)).alloc (.cells #[.int .u64 0,.int .i64 0,.bool false,.int .i64 0] 24)).drewN q;generalize((w.alloc (.cells #[.int .u64 e0,.int .i64 e1,.bool e2,.int .i64 e3] 24)).alloc (.cells #[.int .u64 0,.int .i64 0,.bool false,.int .i64 0] 24)).drewN q=w2 at*;have Oi:=aa aB;have HG:=aa aX;have rZ:=aa hcut;have dj:Zh (∀(wx:World) (X F:HL),Holds wx (X++((b,.cells #[sv] 70)::(Hs++((w.heap.size+1,.cells #[.int .u64 0,.int .i64 0,.bool false,.int .i64 0] 24)::((w.heap.size,.cells #[.int .u64 e0,.int .i64 e1,.bool e2,.int .i64 e3] 24)::F)))))->wx.cell? ⟨b,0,none⟩=some sv∧wx.frozen? ⟨b,0,none⟩=false∧wx.cell? ⟨w.heap.size,0,none⟩=some (.int .u64 e0)∧wx.cell? ⟨w.heap.size,1,none⟩=some (.int .i64 e1)∧wx.cell? ⟨w.heap.size,2,none⟩=some (.bool e2)∧wx.cell? ⟨w.heap.size,3,none⟩=some (.int .i64 e3)):=aa (by
  intro wx X F hX;have h2:=hX.right;have h3:=h2.tail.right.tail;exact⟨h2.ae 0,h2.ah 0,h3.ae 0,h3.ae 1,h3.ae 2,h3.ae 3⟩)
 have lY:Holds w2 ([]++((b,.cells #[sv] 70)::(Hs++((w.heap.size+1,.cells #[.int .u64 0,.int .i64 0,.bool false,.int .i64 0] 24)::((w.heap.size,.cells #[.int .u64 e0,.int .i64 e1,.bool e2,.int .i64 e3] 24)::Fr))))):=aB.p;clear LU aB aX HF hcut;cases hh:sw L s e0 with
 |true=>
  obtain⟨IU,hsa,hq⟩:=rZ.o.PX HI.o hh;clear hq;have HX:=aa (Kf rZ.o HI.o hh);have HP:=aa (YV (e:=⟨e0,e1,e2,e3⟩) rZ.o HI.o hh);rw[bF IU]at HX;have HIS:=aa (fun(wx:World) (F:HL) (hx:Holds wx (Hs++F))=>aP.store ay hx IU);obtain⟨gg,cc,rfl,PC,nO,⟨d0,d1,d2,d3⟩,tM,SB,bD⟩:=HIS.o w2 _ (Holds.swap (A:=[_]) lY);obtain⟨z0,z1,z2,z3,z4,z5⟩:=dj.o w2 _ _ lY;clear bD tM SB hh hsa ay;generalize L[s]=y at*;obtain⟨y0,y1,y2,y3⟩:=y;simp only at d0 d1 d2 d3;generalize IE:L.length=n at*;have nW:=aa IE;have Oq:Zh (∀(wx:World) (F:HL),Holds wx ([]++((b,.cells #[.slice (some ⟨gg,0,none⟩) n cc] 70)::(Hs++((w.heap.size+1,.cells #[.int .u64 0,.int .i64 0,.bool false,.int .i64 0] 24)::((w.heap.size,.cells #[.int .u64 e0,.int .i64 e1,.bool e2,.int .i64 e3] 24)::F)))))->(wx.cell? ⟨b,0,none⟩=some (.slice (some ⟨gg,0,none⟩) n cc)∧wx.cell? ⟨w.heap.size,0,none⟩=some (.int .u64 e0)∧wx.cell? ⟨w.heap.size,1,none⟩=some (.int .i64 e1)∧wx.cell? ⟨w.heap.size,2,none⟩=some (.bool e2)∧wx.cell? ⟨w.heap.size,3,none⟩=some (.int .i64 e3)∧
    wx.frozen? ⟨gg,s*4,none⟩=false∧wx.frozen? ⟨gg,s*4+1,none⟩=false∧wx.frozen? ⟨gg,s*4+2,none⟩=false∧wx.frozen? ⟨gg,s*4+3,none⟩=false∧wx.cell? ⟨gg,s*4,none⟩=some (.int .u64 y0)∧wx.cell? ⟨gg,s*4+1,none⟩=some (.int .i64 y1)∧wx.cell? ⟨gg,s*4+2,none⟩=some (.bool y2)∧wx.cell? ⟨gg,s*4+3,none⟩=some (.int .i64 y3))∧∃H',aP (.slice (some ⟨gg,0,none⟩) n cc) (L.set s ⟨e0,e1,e2,e3⟩) H'∧Holds (jb wx gg (s*4) ⟨e0,e1,e2,e3⟩) (H'++((b,.cells #[.slice (some ⟨gg,0,none⟩) n cc] 70)::((w.heap.size+1,.cells #[.int .u64 0,.int .i64 0,.bool false,.int .i64 0] 24)::((w.heap.size,.cells #[.int .u64 e0,.int .i64 e1,.bool e2,.int .i64 e3] 24)::F))))):=aa (by
   intro wx F hx;obtain⟨a1,_,a3,a4,a5,a6⟩:=dj.o wx _ _ hx;have th:=Holds.swap (A:=[_]) (B:=Hs) hx;obtain⟨g2,c2,hw,_,_,⟨b0,b1,b2,b3⟩,tM,_,bD⟩:=HIS.o wx _ th;injection hw with u7 _ _;injection u7 with u7;injection u7 with u7;subst u7;have q0:=tM 0 (by omega);rw[fD]at q0;obtain⟨H',h1,h2⟩:=bD wx _ th ⟨e0,e1,e2,e3⟩;exact⟨⟨a1,a3,a4,a5,a6,q0,tM 1 (by omega),tM 2 (by omega),tM 3 (by omega),b0,b1,b2,b3⟩,H',h1,h2⟩)
  clear IE HIS;have fy:Holds (w2.alloc (.cells #[.int .u64 y0,.int .i64 y1,.bool y2,.int .i64 y3] 24)) ([]++((b,.cells #[.slice (some ⟨gg,0,none⟩) n cc] 70)::(Hs++((w.heap.size+1,.cells #[.int .u64 0,.int .i64 0,.bool false,.int .i64 0] 24)::((w.heap.size,.cells #[.int .u64 e0,.int .i64 e1,.bool e2,.int .i64 e3] 24)::((w2.heap.size,.cells #[.int .u64 y0,.int .i64 y1,.bool y2,.int .i64 y3] 24)::Fr)))))):=(lY.alloc (.cells #[.int .u64 y0,.int .i64 y1,.bool y2,.int .i64 y3] 24)).p;clear lY;go_wp2_with fail
  go_upto_region 4 with fail
  refine aF (fun wx=>wx.cell? ⟨b,0,none⟩=some (.slice (some ⟨gg,0,none⟩) n cc)∧wx.cell? ⟨w.heap.size,0,none⟩=some (.int .u64 e0)∧wx.cell? ⟨w.heap.size,1,none⟩=some (.int .i64 e1)∧wx.cell? ⟨w.heap.size,2,none⟩=some (.bool e2)∧wx.cell? ⟨w.heap.size,3,none⟩=some (.int .i64 e3)∧wx.frozen? ⟨gg,s*4,none⟩=false∧wx.frozen? ⟨gg,s*4+1,none⟩=false∧wx.frozen? ⟨gg,s*4+2,none⟩=false∧wx.frozen? ⟨gg,s*4+3,none⟩=false∧wx.cell? ⟨gg,s*4,none⟩=some (.int .u64 y0)∧wx.cell? ⟨gg,s*4+1,none⟩=some (.int .i64 y1)∧wx.cell? ⟨gg,s*4+2,none⟩=some (.bool y2)∧wx.cell? ⟨gg,s*4+3,none⟩=some (.int .i64 y3)) 7 (by kernel_rfl) (fun w1 hd=>(Oq.o _ _ (fy.dr hd)).1) (fun w1 hd hs=>?_);have cA:=fy.dr hd;have fx:=(HG.o.alloc (.cells #[.int .u64 y0,.int .i64 y1,.bool y2,.int .i64 y3] 24)).trans (af.dr hd);clear hd fy;refine dY 0 1 2 3 ?_;refine Ag 4 5 6 ?_;refine Zl 7 fun K hK=>?_;go_simp;refine hK _ _ ?_;clear hK K hs;refine Ze ?_;obtain⟨_,nC,xC,tJ⟩:=Oq.o _ _ cA;have iT:=fx.jb gg (s*4) ⟨e0,e1,e2,e3⟩;have Ml:=aa (show(fV L ⟨e0,e1,e2,e3⟩).length=n by rw[HP.o,k5,nW.o]);rw[<-HP.o]at xC;have LO:=aa (show mR (.pointer (some ⟨b,0,none⟩)) (fV L ⟨e0,e1,e2,e3⟩) ((b,.cells #[.slice (some ⟨gg,0,none⟩) n cc] 70)::nC)from⟨LN.o,LD.o,by rw[Ml.o];omega,b,_,nC,rfl,xC,rfl⟩);simp only[jb]at tJ iT;have hi3:=Holds.swap (A:=nC) (B:=[_]) tJ;obtain⟨j0,j1,j2,j3,j4,j5,j6,j7,dN⟩:=vX (e:=⟨0,0,false,0⟩) (A:=(b,.cells #[.slice (some ⟨gg,0,none⟩) n cc] 70)::nC) hi3;have Om:=tJ.right.tail.tail.tail;have l0:=Om.ae 0;have l1:=Om.ae 1;have l2:=Om.ae 2;have l3:=Om.ae 3;have fj:=aa (dN ⟨y0,y1,y2,y3⟩);have IM:=aa (iT.jb (w.heap.size+1) 0 ⟨y0,y1,y2,y3⟩);generalize((((w1.setCell ⟨gg,s*4,none⟩ (.int .u64 e0)).setCell ⟨gg,s*4+1,none⟩ (.int .i64 e1)).setCell ⟨gg,s*4+2,none⟩ (.bool e2)).setCell ⟨gg,s*4+3,none⟩ (.int .i64 e3))=w7 at*;clear dN Om tJ hi3 xC fx iT cA d0 d1 d2 d3 z0 z1 z2 z3 z4 z5;go_wp2_with fail
  refine⟨rfl,mo (some ⟨y0,y1,y2,y3⟩),(by rw[results_cell_tmp rfl];go_simp;rfl),by rw[HX.o],_,LO.o,?_,IM.o⟩;exact Holds.DD (A:=(b,.cells #[.slice (some ⟨gg,0,none⟩) n cc] 70)::nC) (B:=[_,_]) (C:=Fr) fj.o
 |false=>
  have HX:=aa (yM rZ.o HI.o hh);have HP:=aa (V6 (e:=⟨e0,e1,e2,e3⟩) rZ.o HI.o hh);have Ml:=aa (show(fV L ⟨e0,e1,e2,e3⟩).length=s+1+(L.length-s) by rw[HP.o,aY,dG,fC,dA];omega);have HPC:Zh (cQ (fV L ⟨e0,e1,e2,e3⟩)=cQ (L.take s)++([.int .u64 e0,.int .i64 e1,.bool e2,.int .i64 e3]:List Value)++cQ (L.drop s)):=aa (by
   rw[HP.o,eM,cE];rfl)
  have hla:(cQ (L.take s)++([.int .u64 e0,.int .i64 e1,.bool e2,.int .i64 e3]:List Value)).length=(s+1)*4:=by rw[aY,eu,dG,uc hs];simp;omega
  clear hh;have Qk:=lY;have Oo:=HG.o;rcases aP.parts ay with⟨rfl,DY,ajn⟩|⟨g,cap,rfl,PC,nO,Dz⟩
  ·have Th:s=0:=by rw[DY]at hs;simpa using hs
   have Ou:=aa DY;have rT:L.length=0:=by rw[DY];rfl
   rw[rT]at Ml;have Lr:Zh (∀(wx:World) (F:HL),Holds wx (Hs++F)->ag wx 4 (.slice none 0 0) 0 (cQ (L.take s))):=aa (fun wx F _=>by rw[DY];simpa[cQ]using ag.ahu);have HP2:Zh (∀(wx:World) (F:HL),Holds wx (Hs++F)->ag wx 4 (.slice none 0 0) 0 (cQ (L.drop s))):=aa (fun wx F _=>by rw[DY];simpa[cQ]using ag.ahu);have jm:=aa ay;clear DY ajn ay;subst Th;go_upto_region 6 with fail
   refine aF (fun wx=>wx.cell? ⟨b,0,none⟩=some (.slice none 0 0)∧wx.frozen? ⟨b,0,none⟩=false∧wx.cell? ⟨w.heap.size,0,none⟩=some (.int .u64 e0)∧wx.cell? ⟨w.heap.size,1,none⟩=some (.int .i64 e1)∧wx.cell? ⟨w.heap.size,2,none⟩=some (.bool e2)∧wx.cell? ⟨w.heap.size,3,none⟩=some (.int .i64 e3)) 20 (by kernel_rfl) (fun w1 hd=>dj.o _ _ _ (Qk.dr hd)) (fun w1 hd hs=>?_);have aD:=Qk.dr hd;have cf:=Oo.trans (af.dr hd);clear hd Qk lY Oo;refine dY 0 1 2 3 ?_;refine qL 4 5 ?_;refine Zt 6 38 (.slice none 0 0) rfl hs ?_ ?_
   ·intro wx hx;obtain⟨s1,s2,s3,s4,s5,s6⟩:=hx;go_simp
   simp only[pt,sA,sS,sZ];refine dY 8 11 12 13 ?_;refine qL 14 15 ?_;refine Zt 16 48 (.slice none 0 0) rfl hs ?_ ?_
   ·intro wx hx;obtain⟨s1,s2,s3,s4,s5,s6⟩:=hx;go_simp
   simp only[pt,sA,sS,sZ];refine Ew 7 9 rfl rfl (by kernel_rfl) (fun K hK=>?_) (fun K hK=>?_);have⟨s1,s2,s3,s4,s5,s6⟩:=hs;refine bf ix (by rfl) _ _ (by rfl) (by rfl) (by rfl) (au.nil _ _) aD (Lr.o w1 _ (Holds.swap (A:=[_]) aD)) gH (by simp[maxLen]<;>omega) (by omega) ?_;intro A5 c5 w5 H5 oD bg dJ;rw[fp]at oD;rw[fp];clear s1 s2 s3 s4 s5 s6;refine hK _ _ (dj.o _ _ _ bg) (fun _=>?_);clear hK K hs;rename_i hs;refine qh 9 rfl (by kernel_rfl) (fun K hK=>?_);have⟨s1,s2,s3,s4,s5,s6⟩:=hs;go_simp;clear s1 s2 s3 s4 s5 s6;refine hK _ _ (dj.o _ (_::H5) _ (bg.alloc _)) (fun _=>?_);clear hK K hs;rename_i hs;have hZ:Holds (w5.alloc (.cells #[.int .u64 e0,.int .i64 e1,.bool e2,.int .i64 e3] 24)) (H5++((w5.heap.size,(.cells #[.int .u64 e0,.int .i64 e1,.bool e2,.int .i64 e3] 24))::((b,.cells #[.slice none 0 0] 70)::(Hs++((w.heap.size+1,.cells #[.int .u64 0,.int .i64 0,.bool false,.int .i64 0] 24)::((w.heap.size,.cells #[.int .u64 e0,.int .i64 e1,.bool e2,.int .i64 e3] 24)::Fr)))))):=Holds.swap (A:=[_]) (bg.alloc _);have lT:=(cf.trans dJ).alloc (.cells #[.int .u64 e0,.int .i64 e1,.bool e2,.int .i64 e3] 24);generalize w5.alloc (.cells #[.int .u64 e0,.int .i64 e1,.bool e2,.int .i64 e3] 24)=wz at*;generalize w5.heap.size=gz at*;clear bg dJ cf aD;rotate_left;have⟨s1,s2,s3,s4,s5,s6⟩:=hs;go_simp;clear s1 s2 s3 s4 s5 s6;refine hK _ _ (dj.o _ [_] _ (aD.alloc _)) (fun _=>?_);clear hK K hs;rename_i hs;refine qh 7 rfl (by kernel_rfl) (fun K hK=>?_);have⟨s1,s2,s3,s4,s5,s6⟩:=hs;refine bf ix (by rfl) _ _ (by rfl) (by rfl) (by rfl) (au.nil _ _) (show Holds (w1.alloc (.cells #[.int .u64 e0,.int .i64 e1,.bool e2,.int .i64 e3] 24)) (([]:List (Nat×Obj))++((w1.heap.size,(.cells #[.int .u64 e0,.int .i64 e1,.bool e2,.int .i64 e3] 24))::((b,.cells #[.slice none 0 0] 70)::(Hs++((w.heap.size+1,.cells #[.int .u64 0,.int .i64 0,.bool false,.int .i64 0] 24)::((w.heap.size,.cells #[.int .u64 e0,.int .i64 e1,.bool e2,.int .i64 e3] 24)::Fr))))))from aD.alloc _) (Lr.o _ _ (Holds.swap (A:=[_,_]) (aD.alloc _))) gH (by simp[maxLen]<;>omega) (by omega) ?_;intro A5 c5 w5 H5 oD bg dJ;rw[fp]at oD;rw[fp];clear s1 s2 s3 s4 s5 s6;refine hK _ _ (dj.o _ (H5++[_]) _ (by simpa using bg)) (fun _=>?_);clear hK K hs;rename_i hs;have hZ:=bg;have lT:=(cf.alloc (.cells #[.int .u64 e0,.int .i64 e1,.bool e2,.int .i64 e3] 24)).trans dJ;generalize w1.heap.size=gz at*;generalize w5=wz at*;clear bg dJ cf aD;rotate_left;all_goals
    refine Zm 10 fun K hK=>?_;refine bf ix (by rfl) _ _ (by rfl) (by rfl) (by rfl) oD hZ (ag.ft (n:=1) (c:=1) (o:=0) (g:=gz) (hZ.get (b:=gz) (o:=(.cells #[.int .u64 e0,.int .i64 e1,.bool e2,.int .i64 e3] 24)) (by simp)) [.int .u64 e0,.int .i64 e1,.bool e2,.int .i64 e3] rfl (by omega) (by simp[maxLen]) (by intro j u hu;simpa using hu)) (by simp[Value.oneCell']) (by simp[maxLen]<;>omega) (by omega) ?_;intro A6 c6 w6 H6 gE bC eJ;refine hK _ _ (dj.o _ (H6++[_]) _ (by simpa using bC)) (fun _=>?_);clear hK K hs;rename_i hs;refine Zm 17 fun K hK=>?_;refine bf ix (by rfl) _ _ (by rfl) (by rfl) (by rfl) gE bC (HP2.o w6 _ (Holds.swap (A:=H6++[_,_]) (by simpa using bC))) gH (by simp[maxLen]<;>omega) (by omega) ?_;intro A7 c7 w7 H7 zf cA jk;refine hK _ _ (dj.o _ (H7++[_]) _ (by simpa using cA)) (fun _=>?_);clear hK K hs;rename_i hs;refine qL 18 19 ?_;refine Zl 20 fun K hK=>?_;go_simp;refine hK _ _ ?_;clear hK K hs;refine Ze ?_;have zT:aP (.slice A7 1 c7) (fV L ⟨e0,e1,e2,e3⟩) H7:=by
     unfold aP;rw[Ml.o,HPC.o];exact zf
    have FW:Holds (w7.setCell ⟨b,0,none⟩ (.slice A7 1 c7)) ((b,.cells #[.slice A7 1 c7] 70)::((H7++[(gz,(.cells #[.int .u64 e0,.int .i64 e1,.bool e2,.int .i64 e3] 24))])++(Hs++((w.heap.size+1,.cells #[.int .u64 0,.int .i64 0,.bool false,.int .i64 0] 24)::((w.heap.size,.cells #[.int .u64 e0,.int .i64 e1,.bool e2,.int .i64 e3] 24)::Fr))))):=(Holds.swap (A:=H7++[_]) (B:=[_]) (by simpa using cA)).ej 0 _;have PT:=((lT.trans eJ).trans jk).setCell ⟨b,0,none⟩ (.slice A7 1 c7);change Exit.then _ _ _ _ (w7.setCell ⟨b,0,none⟩ (.slice A7 1 c7));generalize w7.setCell ⟨b,0,none⟩ (.slice A7 1 c7)=w8 at*;have LO:=aa (show mR (.pointer (some ⟨b,0,none⟩)) (fV L ⟨e0,e1,e2,e3⟩) ((b,.cells #[.slice A7 1 c7] 70)::H7)from⟨LN.o,LD.o,by rw[Ml.o];omega,b,_,H7,rfl,zT,rfl⟩);obtain⟨j0,j1,j2,j3,j4,j5,j6,j7,dN⟩:=vX (e:=⟨0,0,false,0⟩) (A:=((b,.cells #[.slice A7 1 c7] 70)::H7)++((gz,(.cells #[.int .u64 e0,.int .i64 e1,.bool e2,.int .i64 e3] 24))::Hs)) (by simpa[js]using FW);have fj:=aa (dN ⟨0,0,false,0⟩);have IM:=aa (PT.jb (w.heap.size+1) 0 ⟨0,0,false,0⟩);clear dN FW zT zf gE oD hZ lT bC eJ cA jk PT hs;go_wp2_with fail
    refine⟨rfl,mo none,(by rw[results_cell_tmp rfl];go_simp;rfl),by rw[HX.o],_,LO.o,?_,IM.o⟩;exact Holds.DD (B:=[_]) (Holds.DD (Holds.assoc fj.o))
  ·obtain⟨rH,_⟩:=Dz s hs;obtain⟨_,oi,hoi,sk⟩:=Dz s hs;have Lr:=aa rH;have HP2:=aa sk;clear Dz rH sk ay;unfold maxLen at nO;generalize IE:L.length=n at*;have nW:=aa IE;clear IE;have hsc:s<=cap:=by omega
   go_upto_region 6 with fail
   refine aF (fun wx=>wx.cell? ⟨b,0,none⟩=some (.slice (some ⟨g,0,none⟩) n cap)∧wx.frozen? ⟨b,0,none⟩=false∧wx.cell? ⟨w.heap.size,0,none⟩=some (.int .u64 e0)∧wx.cell? ⟨w.heap.size,1,none⟩=some (.int .i64 e1)∧wx.cell? ⟨w.heap.size,2,none⟩=some (.bool e2)∧wx.cell? ⟨w.heap.size,3,none⟩=some (.int .i64 e3)) 20 (by kernel_rfl) (fun w1 hd=>dj.o _ _ _ (Qk.dr hd)) (fun w1 hd hs=>?_);have aD:=Qk.dr hd;have cf:=Oo.trans (af.dr hd);clear hd Qk lY Oo;refine dY 0 1 2 3 ?_;refine dY 4 5 6 8 ?_;refine dY 11 12 13 14 ?_;refine ji 15 ?_;refine Zt 16 48 (.slice (some ⟨g,oi,none⟩) (n-s) (cap-s)) rfl hs ?_ ?_
   ·intro wx hx;obtain⟨s1,s2,s3,s4,s5,s6⟩:=hx;go_simp
   simp only[pt,sA,sS,sZ];refine Ew 7 9 rfl rfl (by kernel_rfl) (fun K hK=>?_) (fun K hK=>?_);have⟨s1,s2,s3,s4,s5,s6⟩:=hs;refine bf ix (by rfl) _ _ (by rfl) (by rfl) (by rfl) (au.nil _ _) aD (Lr.o w1 _ (Holds.swap (A:=[_]) aD)) gH (by simp[maxLen]<;>omega) (by omega) ?_;intro A5 c5 w5 H5 oD bg dJ;rw[fp]at oD;rw[fp];clear s1 s2 s3 s4 s5 s6;refine hK _ _ (dj.o _ _ _ bg) (fun _=>?_);clear hK K hs;rename_i hs;refine qh 9 rfl (by kernel_rfl) (fun K hK=>?_);have⟨s1,s2,s3,s4,s5,s6⟩:=hs;go_simp;clear s1 s2 s3 s4 s5 s6;refine hK _ _ (dj.o _ (_::H5) _ (bg.alloc _)) (fun _=>?_);clear hK K hs;rename_i hs;have hZ:Holds (w5.alloc (.cells #[.int .u64 e0,.int .i64 e1,.bool e2,.int .i64 e3] 24)) (H5++((w5.heap.size,(.cells #[.int .u64 e0,.int .i64 e1,.bool e2,.int .i64 e3] 24))::((b,.cells #[.slice (some ⟨g,0,none⟩) n cap] 70)::(Hs++((w.heap.size+1,.cells #[.int .u64 0,.int .i64 0,.bool false,.int .i64 0] 24)::((w.heap.size,.cells #[.int .u64 e0,.int .i64 e1,.bool e2,.int .i64 e3] 24)::Fr)))))):=Holds.swap (A:=[_]) (bg.alloc _);have lT:=(cf.trans dJ).alloc (.cells #[.int .u64 e0,.int .i64 e1,.bool e2,.int .i64 e3] 24);generalize w5.alloc (.cells #[.int .u64 e0,.int .i64 e1,.bool e2,.int .i64 e3] 24)=wz at*;generalize w5.heap.size=gz at*;clear bg dJ cf aD;rotate_left;have⟨s1,s2,s3,s4,s5,s6⟩:=hs;go_simp;clear s1 s2 s3 s4 s5 s6;refine hK _ _ (dj.o _ [_] _ (aD.alloc _)) (fun _=>?_);clear hK K hs;rename_i hs;refine qh 7 rfl (by kernel_rfl) (fun K hK=>?_);have⟨s1,s2,s3,s4,s5,s6⟩:=hs;refine bf ix (by rfl) _ _ (by rfl) (by rfl) (by rfl) (au.nil _ _) (show Holds (w1.alloc (.cells #[.int .u64 e0,.int .i64 e1,.bool e2,.int .i64 e3] 24)) (([]:List (Nat×Obj))++((w1.heap.size,(.cells #[.int .u64 e0,.int .i64 e1,.bool e2,.int .i64 e3] 24))::((b,.cells #[.slice (some ⟨g,0,none⟩) n cap] 70)::(Hs++((w.heap.size+1,.cells #[.int .u64 0,.int .i64 0,.bool false,.int .i64 0] 24)::((w.heap.size,.cells #[.int .u64 e0,.int .i64 e1,.bool e2,.int .i64 e3] 24)::Fr))))))from aD.alloc _) (Lr.o _ _ (Holds.swap (A:=[_,_]) (aD.alloc _))) gH (by simp[maxLen]<;>omega) (by omega) ?_;intro A5 c5 w5 H5 oD bg dJ;rw[fp]at oD;rw[fp];clear s1 s2 s3 s4 s5 s6;refine hK _ _ (dj.o _ (H5++[_]) _ (by simpa using bg)) (fun _=>?_);clear hK K hs;rename_i hs;have hZ:=bg;have lT:=(cf.alloc (.cells #[.int .u64 e0,.int .i64 e1,.bool e2,.int .i64 e3] 24)).trans dJ;generalize w1.heap.size=gz at*;generalize w5=wz at*;clear bg dJ cf aD;rotate_left;all_goals
    refine Zm 10 fun K hK=>?_;refine bf ix (by rfl) _ _ (by rfl) (by rfl) (by rfl) oD hZ (ag.ft (n:=1) (c:=1) (o:=0) (g:=gz) (hZ.get (b:=gz) (o:=(.cells #[.int .u64 e0,.int .i64 e1,.bool e2,.int .i64 e3] 24)) (by simp)) [.int .u64 e0,.int .i64 e1,.bool e2,.int .i64 e3] rfl (by omega) (by simp[maxLen]) (by intro j u hu;simpa using hu)) (by simp[Value.oneCell']) (by simp[maxLen]<;>omega) (by omega) ?_;intro A6 c6 w6 H6 gE bC eJ;refine hK _ _ (dj.o _ (H6++[_]) _ (by simpa using bC)) (fun _=>?_);clear hK K hs;rename_i hs;refine Zm 17 fun K hK=>?_;refine bf ix (by rfl) _ _ (by rfl) (by rfl) (by rfl) gE bC (HP2.o w6 _ (Holds.swap (A:=H6++[_,_]) (by simpa using bC))) gH (by simp[maxLen]<;>omega) (by omega) ?_;intro A7 c7 w7 H7 zf cA jk;refine hK _ _ (dj.o _ (H7++[_]) _ (by simpa using cA)) (fun _=>?_);clear hK K hs;rename_i hs;refine qL 18 19 ?_;refine Zl 20 fun K hK=>?_;go_simp;refine hK _ _ ?_;clear hK K hs;refine Ze ?_;have zT:aP (.slice A7 (s+1+(n-s)) c7) (fV L ⟨e0,e1,e2,e3⟩) H7:=by
     unfold aP;rw[Ml.o,HPC.o];exact zf
    have FW:Holds (w7.setCell ⟨b,0,none⟩ (.slice A7 (s+1+(n-s)) c7)) ((b,.cells #[.slice A7 (s+1+(n-s)) c7] 70)::((H7++[(gz,(.cells #[.int .u64 e0,.int .i64 e1,.bool e2,.int .i64 e3] 24))])++(Hs++((w.heap.size+1,.cells #[.int .u64 0,.int .i64 0,.bool false,.int .i64 0] 24)::((w.heap.size,.cells #[.int .u64 e0,.int .i64 e1,.bool e2,.int .i64 e3] 24)::Fr))))):=(Holds.swap (A:=H7++[_]) (B:=[_]) (by simpa using cA)).ej 0 _;have PT:=((lT.trans eJ).trans jk).setCell ⟨b,0,none⟩ (.slice A7 (s+1+(n-s)) c7);change Exit.then _ _ _ _ (w7.setCell ⟨b,0,none⟩ (.slice A7 (s+1+(n-s)) c7));generalize w7.setCell ⟨b,0,none⟩ (.slice A7 (s+1+(n-s)) c7)=w8 at*;have LO:=aa (show mR (.pointer (some ⟨b,0,none⟩)) (fV L ⟨e0,e1,e2,e3⟩) ((b,.cells #[.slice A7 (s+1+(n-s)) c7] 70)::H7)from⟨LN.o,LD.o,by rw[Ml.o];omega,b,_,H7,rfl,zT,rfl⟩);obtain⟨j0,j1,j2,j3,j4,j5,j6,j7,dN⟩:=vX (e:=⟨0,0,false,0⟩) (A:=((b,.cells #[.slice A7 (s+1+(n-s)) c7] 70)::H7)++((gz,(.cells #[.int .u64 e0,.int .i64 e1,.bool e2,.int .i64 e3] 24))::Hs)) (by simpa[js]using FW);have fj:=aa (dN ⟨0,0,false,0⟩);have IM:=aa (PT.jb (w.heap.size+1) 0 ⟨0,0,false,0⟩);clear dN FW zT zf gE oD hZ lT bC eJ cA jk PT hs;go_wp2_with fail
    refine⟨rfl,mo none,(by rw[results_cell_tmp rfl];go_simp;rfl),by rw[HX.o],_,LO.o,?_,IM.o⟩;exact Holds.DD (B:=[_]) (Holds.DD (Holds.assoc fj.o))
end Go.Proofs.YtalnifciidblkaaGreatDoor
