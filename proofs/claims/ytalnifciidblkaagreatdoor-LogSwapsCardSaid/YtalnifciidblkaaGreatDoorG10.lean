/-
  Lemmas.
-/
import Derived.Test.YtalnifciidblkaaGreatDoorG31
import Derived.BigQuiet
namespace Go.Proofs.YtalnifciidblkaaGreatDoor
open _root_.Go.Proofs.Tryz
open Go.RowKit
set_option linter.unusedSimpArgs false
set_option linter.unusedVariables false
set_option maxRecDepth 20000
set_option maxHeartbeats 2000000
def kj.DB(x:kj):Value:=.slice x.da x.dn x.dc
theorem Hj(Z:Nat)(nm:List UInt8)(es:List az)(x y:kj)(i j:Nat)(w:World)(Fr:HL)(hx:bN Fr x.DB (cW Z nm es i))(hy:bN Fr y.DB (cW Z nm es j))(hH:Holds w Fr)(hl:yZ nm)(hr:dd es)(hn:es.length<=256)(hi:i<aM Z es.length)(hj:j<aM Z es.length)(qH:128<=Z)(tW:Z<=256):
  Calls Tryz.prog 117 #[.agg x.cells.toArray,.agg y.cells.toArray] w (cM (.int .i64 (lI i j)) w Fr):=by
 have HN1:=aa fun(wx:World) (F:HL) (hw:Holds wx (F++Fr))=>xe Z i nm es x.DB wx (F++Fr) hx.right hw hl hr hn hi qH tW;have Jf:=aa fun(wx:World) (F:HL) (hw:Holds wx (F++Fr))=>xe Z j nm es y.DB wx (F++Fr) hy.right hw hl hr hn hj qH tW;have HC:=aa fun wx=>Cb (i:Int) (j:Int) wx;generalize lI (i:Int) (j:Int)=r at*;generalize aM Z es.length=P at*;clear hx hy hl hr;obtain⟨xn,⟨x0,x1,x2,x3⟩,xa,xl,xc⟩:=x;obtain⟨yn,⟨y0,y1,y2,y3⟩,ya,yl,yc⟩:=y;unfold kj.DB at HN1 Jf;dsimp only at HN1 Jf;simp only[kj.cells];have ax:=hH.alloc (.cells #[.int .i64 xn,.int .i64 x0,.int .u64 x1,.int .i64 x2,.int .i64 x3,.slice xa xl xc] 183);have gY:=(af.refl w).alloc (.cells #[.int .i64 xn,.int .i64 x0,.int .u64 x1,.int .i64 x2,.int .i64 x3,.slice xa xl xc] 183);have aB:=ax.alloc (.cells #[.int .i64 yn,.int .i64 y0,.int .u64 y1,.int .i64 y2,.int .i64 y3,.slice ya yl yc] 183);have cY:=gY.alloc (.cells #[.int .i64 yn,.int .i64 y0,.int .u64 y1,.int .i64 y2,.int .i64 y3,.slice ya yl yc] 183);rw[World.size_alloc]at aB;clear hH ax gY;go_enter func117,ntmps117;go_upto_region 1 with fail
 generalize(w.alloc (.cells #[.int .i64 xn,.int .i64 x0,.int .u64 x1,.int .i64 x2,.int .i64 x3,.slice xa xl xc] 183)).alloc (.cells #[.int .i64 yn,.int .i64 y0,.int .u64 y1,.int .i64 y2,.int .i64 y3,.slice ya yl yc] 183)=w2 at*;generalize w.heap.size=g1 at*;have c5:=aB.tail.ae 5;have d5:=aB.ae 5;go_wp2_with fail
 refine(HN1.o w2 [_,_] aB).mono ?_;rintro e w3⟨rfl,aD,bj⟩;have P9:Holds w3 ((g1+1,.cells #[.int .i64 yn,.int .i64 y0,.int .u64 y1,.int .i64 y2,.int .i64 y3,.slice ya yl yc] 183)::((g1,.cells #[.int .i64 xn,.int .i64 x0,.int .u64 x1,.int .i64 x2,.int .i64 x3,.slice xa xl xc] 183)::Fr)):=aD;have cf:=cY.trans bj;clear c5 d5 aB cY bj aD;have d5:=P9.ae 5;go_wp2_with fail
 refine(Jf.o w3 [_,_] P9).mono ?_;rintro e w4⟨rfl,aU,bV⟩;have XN:Holds w4 Fr:=aU.right;have bI:=cf.trans bV;clear d5 P9 cf bV aU;go_wp2_with fail
 refine(HC.o w4).mono ?_;rintro e w5⟨rfl,rfl⟩;go_wp2_with fail
 go_ret;exact⟨rfl,XN,bI⟩
def vZ(Fr:HL)(v:Value)(ps:List kj):Prop:=∀w,Holds w Fr->ag w 6 v ps.length (xA ps)
theorem vZ.get{Fr:HL}{A:Option Addr}{c:Nat}{ps:List kj}(h:vZ Fr (.slice A ps.length c) ps){w0:World}(h0:Holds w0 Fr)(hp:0<ps.length):∃b o,A=some ⟨b,o,none⟩∧∀w,Holds w Fr->∀i (hi:i<ps.length),w.cell? ⟨b,o+i*6,none⟩=some (.int .i64 ps[i].n)∧
  w.cell? ⟨b,o+i*6+1,none⟩=some (.int .i64 ps[i].h.k)∧w.cell? ⟨b,o+i*6+2,none⟩=some (.int .u64 ps[i].h.a)∧w.cell? ⟨b,o+i*6+3,none⟩=some (.int .i64 ps[i].h.s)∧w.cell? ⟨b,o+i*6+4,none⟩=some (.int .i64 ps[i].h.g)∧w.cell? ⟨b,o+i*6+5,none⟩=some ps[i].DB:=by
 obtain⟨_,A',c',hv,_,_,cm⟩:=h w0 h0;injection hv with e1 e2 e3;subst e1;obtain⟨b,o,rfl,_⟩:=cm hp;refine⟨b,o,rfl,fun w hw i hi=>?_⟩;obtain⟨_,A2,c2,mg,_,_,Bs⟩:=h w hw;injection mg with f1 f2 f3;obtain⟨b2,o2,f4,hc⟩:=Bs hp;rw[f4]at f1;injection f1 with f1;injection f1 with f5 f6;subst f5 f6;have hg:=GS ps i hi;refine⟨?_,?_,?_,?_,?_,?_⟩
 ·have:=hc (i*6+0) _ (hg 0 (by omega));simpa[gW]using this
 ·have:=hc (i*6+1) _ (hg 1 (by omega));rw[<-gW]at this;exact this
 ·have:=hc (i*6+2) _ (hg 2 (by omega));rw[<-gW]at this;exact this
 ·have:=hc (i*6+3) _ (hg 3 (by omega));rw[<-gW]at this;exact this
 ·have:=hc (i*6+4) _ (hg 4 (by omega));rw[<-gW]at this;exact this
 ·have:=hc (i*6+5) _ (hg 5 (by omega));rw[<-gW]at this;exact this
def OX(Fr:HL)(ps:List kj):Prop:=∀i (h:i+1<ps.length) (w:World) (F:HL),Holds w (F++Fr)->Calls Tryz.prog 117 #[.agg ps[i+1].cells.toArray,.agg (ps[i]'(by omega)).cells.toArray] w (fun e w'=>∃k:Int,0<=k∧e=.returned (.int .i64 k)∧Holds w' (F++Fr)∧af w w')
def ahV(n:Nat)(w:World)(Fr:HL)(iv:Value)(wr:World):Prop:=∃k:Nat,k+1<=max n 1∧iv=.int .i64 ((k:Int)+1)∧Holds wr Fr∧af w wr
theorem RN(v:Value)(ps:List kj)(w:World)(Fr:HL)(hv:vZ Fr v ps)(hH:Holds w Fr)(hc:OX Fr ps)(kJ:ps.length<20):
  Calls Tryz.prog 224 #[v,.int .i64 0,.int .i64 (ps.length:Int),.func (.func 117) #[] #[]] w (cM (.tuple #[]) w Fr):=by
 have HC:=aa hc;have HV:=aa hv;obtain⟨-,A,c,rfl,-,-,-⟩:=hv w hH;have bD:ahV ps.length w Fr (.int .i64 1) w:=⟨0,by omega,rfl,hH,af.refl w⟩;have HW:=aa hH;clear hc hv hH;go_enter func224,ntmps224;go_wp2_with fail
 go_loopw [8] (fun iv wr=>ahV ps.length w Fr iv wr) (fun iv _=>ps.length-(intOf iv).toNat)
 case atStart=>exact bD
 case round=>
  clear bD;obtain⟨k,hk,rfl,hH,hg⟩:=hrel;by_cases aG:k+1<ps.length
  ·have dQ:(k:Int)+1<ps.length:=by omega
   obtain⟨b,o,rfl,oh⟩:=HV.o.get HW.o (by omega);have IF:=aa fun wx hx=>oh wx hx (k+1) aG;have HG0:=aa fun wx hx=>oh wx hx k (by omega);have pF:=aa (HC.o k aG);generalize ps[k+1]=x at*;generalize ps[k]'(by omega)=y at*;obtain⟨xn,⟨x0,x1,x2,x3⟩,xa,xl,xc⟩:=x;obtain⟨yn,⟨y0,y1,y2,y3⟩,ya,yl,yc⟩:=y;simp only[kj.cells]at pF;unfold kj.DB at IF HG0;dsimp only at IF HG0;clear oh;go_wp2_with fail
   go_loopw [9] (fun jv wr=>jv=.int .i64 ((k:Int)+1)∧Holds wr Fr∧af w wr) (fun _ _=>0)
   case atStart=>exact⟨rfl,hH,hg⟩
   case round=>
    clear hH hg;obtain⟨rfl,hH,hg⟩:=hrel;have rQ:(0:Int)<(k:Int)+1:=by omega
    have xt:(0:Int)<=(k:Int)+1:=by omega
    have p6:(k:Int)<ps.length:=by omega
    have hwi:IntKind.i64.wrap (k:Int)=k:=by rw[IntKind.wrap_i64];omega
    have HS:=aa fun(wx:World) (hx:Holds wx Fr)=>show wx.cell? ⟨b,o+(k+1)*6,none⟩=some (.int .i64 xn)∧wx.cell? ⟨b,o+(k+1)*6+1,none⟩=some (.int .i64 x0)∧wx.cell? ⟨b,o+(k+1)*6+2,none⟩=some (.int .u64 x1)∧wx.cell? ⟨b,o+(k+1)*6+3,none⟩=some (.int .i64 x2)∧wx.cell? ⟨b,o+(k+1)*6+4,none⟩=some (.int .i64 x3)∧wx.cell? ⟨b,o+(k+1)*6+5,none⟩=some (.slice xa xl xc)∧wx.cell? ⟨b,o+k*6,none⟩=some (.int .i64 yn)∧wx.cell? ⟨b,o+k*6+1,none⟩=some (.int .i64 y0)∧wx.cell? ⟨b,o+k*6+2,none⟩=some (.int .u64 y1)∧wx.cell? ⟨b,o+k*6+3,none⟩=some (.int .i64 y2)∧wx.cell? ⟨b,o+k*6+4,none⟩=some (.int .i64 y3)∧wx.cell? ⟨b,o+k*6+5,none⟩=some (.slice ya yl yc)from by
     obtain⟨a0,a1,a2,a3,a4,a5⟩:=IF.o wx hx;exact⟨a0,a1,a2,a3,a4,a5,HG0.o wx hx⟩
    go_upto_region 4 with fail
    refine aF (fun wx=>wx.cell? ⟨b,o+(k+1)*6,none⟩=some (.int .i64 xn)∧wx.cell? ⟨b,o+(k+1)*6+1,none⟩=some (.int .i64 x0)∧wx.cell? ⟨b,o+(k+1)*6+2,none⟩=some (.int .u64 x1)∧wx.cell? ⟨b,o+(k+1)*6+3,none⟩=some (.int .i64 x2)∧wx.cell? ⟨b,o+(k+1)*6+4,none⟩=some (.int .i64 x3)∧wx.cell? ⟨b,o+(k+1)*6+5,none⟩=some (.slice xa xl xc)∧wx.cell? ⟨b,o+k*6,none⟩=some (.int .i64 yn)∧wx.cell? ⟨b,o+k*6+1,none⟩=some (.int .i64 y0)∧wx.cell? ⟨b,o+k*6+2,none⟩=some (.int .u64 y1)∧wx.cell? ⟨b,o+k*6+3,none⟩=some (.int .i64 y2)∧wx.cell? ⟨b,o+k*6+4,none⟩=some (.int .i64 y3)∧wx.cell? ⟨b,o+k*6+5,none⟩=some (.slice ya yl yc)) 17 (by kernel_rfl) (fun w1 hd=>HS.o _ (hH.dr hd)) (fun w1 hd hs=>?_);have bM:=hH.dr hd;have cJ:=hg.trans (af.dr hd);clear hd hH hg;refine dY 0 1 2 3 ?_;refine dY 4 5 6 7 ?_;refine dY 8 9 10 11 ?_;refine qL 12 13 ?_;refine Zm 14 fun K hK=>?_;go_simp;refine Calls.mono (pF.o w1 [] (show Holds w1 ([]++Fr)from bM)) ?_;intro e w3 ajy;obtain⟨kk,au0,rfl,Mp,hgB⟩:=ajy;have dZ:Holds w3 Fr:=Mp;clear Mp;have iZ:=cJ.trans hgB;have zN:¬kk<0:=by omega
    refine hK _ _ (HS.o _ dZ) (fun _=>?_);clear hK K hs;rename_i hs;refine qL 15 16 ?_;refine Ze ?_;clear hs hwi;go_wp2_with fail
    exact⟨⟨k+1,by omega,by simp,dZ,iZ⟩,by simp[intOf];omega⟩
  ·have dQ:¬(k:Int)+1<ps.length:=by omega
   go_wp2_with fail
   exact bodyPost_end (v:=.tuple #[]) (results_none rfl _ _ _) rfl ⟨rfl,hH,hg⟩
theorem NS(v:Value)(ps:List kj)(w:World)(Fr:HL)(hv:vZ Fr v ps)(hH:Holds w Fr)(hc:OX Fr ps)(kJ:ps.length<20):
  Calls Tryz.prog 181 #[v,.int .i64 (ps.length:Int),.func (.func 117) #[] #[]] w (cM (.tuple #[]) w Fr):=by
 have HI:=aa fun wx hx=>RN v ps wx Fr hv hx hc kJ;obtain⟨-,A,c,rfl,-,-,-⟩:=hv w hH;have h20:¬(20:Int)<=(ps.length:Int):=by omega
 have h21:¬(20:Int)<(ps.length:Int):=by omega
 clear hv hc;go_enter func181,ntmps181;go_wp2_with fail
 go_loopw [7,8] (fun av bv wr=>av=.int .i64 0∧bv=.int .i64 20∧Holds wr Fr∧af w wr) (fun _ _ _=>0)
 case atStart=>exact⟨rfl,rfl,hH,af.refl w⟩
 case round=>
  clear hH;obtain⟨rfl,rfl,hH,hg⟩:=hrel;go_wp2_with fail
  refine(HI.o _ hH).mono ?_;rintro e w1⟨rfl,ax,aK⟩;have gY:=hg.trans aK;clear hH hg aK;go_wp2_with fail
  go_loopw [6,7,8,9] (fun s6 _ _ _ wr=>s6=.int .i64 20∧Holds wr Fr∧af w wr) (fun _ _ _ _ _=>0)
  case atStart=>exact⟨rfl,ax,gY⟩
  case round=>
   clear ax gY;obtain⟨rfl,hH,hg⟩:=hrel;go_wp2_with fail
   exact bodyPost_end (v:=.tuple #[]) (results_none rfl _ _ _) rfl ⟨rfl,hH,hg⟩
theorem xh(v:Value)(ps:List kj)(w:World)(Fr:HL)(hv:vZ Fr v ps)(hH:Holds w Fr)(hc:OX Fr ps)(kJ:ps.length<20):
  Calls Tryz.prog 116 #[v,.func (.func 117) #[] #[]] w (cM (.tuple #[]) w Fr):=by
 have HI:=aa (NS v ps w Fr hv hH hc kJ);obtain⟨-,A,c,rfl,-,-,-⟩:=hv w hH;clear hv hc hH;go_enter func116,ntmps116;go_wp2_with fail
 refine HI.o.mono ?_;rintro e w1⟨rfl,ax,aK⟩;go_wp2_with fail
 exact bodyPost_end (v:=.tuple #[]) (results_none rfl _ _ _) rfl ⟨rfl,ax,aK⟩
end Go.Proofs.YtalnifciidblkaaGreatDoor
