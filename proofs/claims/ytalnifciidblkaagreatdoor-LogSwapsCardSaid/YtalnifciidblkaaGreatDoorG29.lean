/-
  Lemmas.
-/
import Derived.Test.YtalnifciidblkaaGreatDoorG04
import Derived.Deep.DeepCutAuto
import Derived.Laws.EntriesVeiled
import Derived.Test.YtalnifciidblkaaGreatDoorG17
import Derived.Test.YtalnifciidblkaaGreatDoorG00
import Derived.Laws.BytesArg
import Derived.BigQuiet
import Derived.Lib.OthersKept
import Derived.Laws.RangeString
namespace Go.Proofs.YtalnifciidblkaaGreatDoor
open _root_.Go.Proofs.Tryz
open Go.RowKit
set_option linter.unusedSimpArgs false
set_option linter.unusedVariables false
set_option maxRecDepth 20000
set_option maxHeartbeats 16000000
theorem CD{c:Int}(hc:c≠0)(b:Nat)(s:ByteArray):bJ (.iface 141 (.pointer (some ⟨b,0,none⟩))) c [(b,.cells #[.int .i64 c,.string s] 143)]:=.inr ⟨hc,b,s,rfl,rfl⟩
def zW(h:Hd):Prop:=0<=h.a∧h.a<18446744073709551616
theorem Hd.Vb{h:Hd}(hm:h.may=true):1<=h.k∧h.k<=4∧1<=h.s∧h.s<=1099511627775∧0<=h.g∧h.g<=16777215:=by
 unfold Hd.may at hm;simp only[fW,decide_eq_true_eq]at hm;omega
theorem JR(d:List UInt8)(h:Hd):(zV d h).length=d.length+23:=by
 unfold zV;simp only[aY,cG,fC,List.length_nil]
theorem sI(d:List UInt8)(h:Hd):(gC d h).length=d.length+28:=by
 unfold gC;simp only[aY,JR,cG,fC,List.length_nil]
theorem O7(v:Value)(d:List UInt8)(h:Hd)(w:World)(Fr:HL)(hb:bN Fr v d)(hH:Holds w Fr)(hs:sizedB d.length=true)(hm:h.may=true)(hi:zW h):
  Calls Tryz.prog 65 #[v,h.agg] w fun e w'=>∃v' H',e=.returned (.tuple #[v',.nilIface])∧ar v' (gC d h) H'∧Holds w' (H'++Fr)∧af w w':=by
 have oR:=Hd.Vb hm;have IU:d.length<=256:=by unfold sizedB at hs;simp only[fW,decide_eq_true_eq]at hs;omega
 have HS:=aa (fun w=>qu d.length w);have HM:=aa (fun w=>EL h w);rw[hs]at HS;rw[hm]at HM;obtain⟨A,c,rfl⟩:=(hb w hH).val;have HB:=aa hb;have Zr:=aa (show gC d h=(zV d h++fG (zU (zV d h)) 4)++[0]from rfl);have HP:=aa (show zV d h=((((d++[ph h.k 0])++fG h.a 8)++fG h.s 5)++fG h.g 3)++fG 0 6 from rfl);have od:=aa (JR d h);obtain⟨tI,xC⟩:=hi;generalize gC d h=out at*;generalize zV d h=pre at*;obtain⟨k,a,s,g⟩:=h;simp only[Hd.agg,Hd.cells]at*;have Ai:=CC k 0;have rQ:k/2^(8*0)%256=IntKind.u8.wrap k:=by
  simp only[IntKind.wrap,IntKind.bits,IntKind.signed];simp
 rw[rQ]at Ai;have IJ:=aa Ai;have ax:=(hH.alloc (.cells #[.int .i64 k,.int .u64 a,.int .i64 s,.int .i64 g] 59)).bP (.cells #[.int .i64 k,.int .u64 a,.int .i64 s,.int .i64 g] 59);have aK:=((af.refl w).alloc (.cells #[.int .i64 k,.int .u64 a,.int .i64 s,.int .i64 g] 59)).alloc (.cells #[.int .i64 k,.int .u64 a,.int .i64 s,.int .i64 g] 59);have dj:Zh (∀(wx:World) (X:HL),Holds wx (X++((w.heap.size,.cells #[.int .i64 k,.int .u64 a,.int .i64 s,.int .i64 g] 59)::Fr))->wx.cell? ⟨w.heap.size,0,none⟩=some (.int .i64 k)∧wx.cell? ⟨w.heap.size,1,none⟩=some (.int .u64 a)∧wx.cell? ⟨w.heap.size,2,none⟩=some (.int .i64 s)∧wx.cell? ⟨w.heap.size,3,none⟩=some (.int .i64 g)):=aa (fun wx X hX=>⟨hX.right.ae 0,hX.right.ae 1,hX.right.ae 2,hX.right.ae 3⟩);clear hs hm Ai rQ hb;go_enter func65,ntmps65;go_wp2_with fail
 refine(HS.o _).mono ?_;rintro e w'⟨rfl,rfl⟩;go_wp2_with fail
 refine(HM.o _).mono ?_;rintro e w'⟨rfl,rfl⟩;generalize(w.alloc (.cells #[.int .i64 k,.int .u64 a,.int .i64 s,.int .i64 g] 59)).alloc (.cells #[.int .i64 k,.int .u64 a,.int .i64 s,.int .i64 g] 59)=wb at*;generalize w.heap.size=g3 at*;go_upto_region 3 with fail
 refine aF (fun wx=>wx.cell? ⟨g3,0,none⟩=some (.int .i64 k)∧wx.cell? ⟨g3,1,none⟩=some (.int .u64 a)∧wx.cell? ⟨g3,2,none⟩=some (.int .i64 s)∧wx.cell? ⟨g3,3,none⟩=some (.int .i64 g)) 8 (by kernel_rfl) (fun w1 hd=>dj.o _ [] (ax.dr hd)) (fun w1 hd hs=>?_);have aD:=ax.dr hd;have cf:=aK.trans (af.dr hd);clear hd ax aK;refine dY 0 2 3 4 ?_;refine Ew 1 5 rfl rfl (by kernel_rfl) (fun K hK=>?_) (fun K hK=>?_);have⟨s1,s2,s3,s4⟩:=hs;go_simp;refine(lf _ d w1 _ (HB.o w1 aD.tail) aD (by omega)).mono ?_;rintro e w2 ⟨v2,H2,rfl,fZ,aU,bV⟩;obtain⟨A2,c2,rfl⟩:=fZ.val;have bI:=cf.trans bV;have PK:=aa fZ;clear fZ bV;clear s1 s2 s3 s4;refine hK _ _ (dj.o _ H2 aU) (fun _=>?_);clear hK K hs;rename_i hs;refine qh 5 rfl (by kernel_rfl) (fun K hK=>?_);have⟨s1,s2,s3,s4⟩:=hs;go_simp;clear s1 s2 s3 s4;refine hK _ _ (dj.o _ (_::H2) (aU.alloc _)) (fun _=>?_);clear hK K hs;rename_i hs;have hZ:Holds (w2.alloc (.cells #[.int .u8 (IntKind.u8.wrap k)] 5)) (H2++((w2.heap.size,(.cells #[.int .u8 (IntKind.u8.wrap k)] 5))::((g3,.cells #[.int .i64 k,.int .u64 a,.int .i64 s,.int .i64 g] 59)::Fr))):=Holds.swap (A:=[_]) (aU.alloc _);have lT:=bI.alloc (.cells #[.int .u8 (IntKind.u8.wrap k)] 5);generalize w2.alloc (.cells #[.int .u8 (IntKind.u8.wrap k)] 5)=wz at*;generalize w2.heap.size=gz at*;clear aU bI aD cf;rotate_left;have⟨s1,s2,s3,s4⟩:=hs;go_simp;clear s1 s2 s3 s4;refine hK _ _ (dj.o _ [_] (aD.alloc _)) (fun _=>?_);clear hK K hs;rename_i hs;refine qh 1 rfl (by kernel_rfl) (fun K hK=>?_);have⟨s1,s2,s3,s4⟩:=hs;go_simp;refine(lf _ d _ _ (HB.o _ (aD.bP (.cells #[.int .u8 (IntKind.u8.wrap k)] 5)).tail) (aD.alloc (.cells #[.int .u8 (IntKind.u8.wrap k)] 5)) (by omega)).mono ?_;rintro e w2 ⟨v2,H2,rfl,fZ,aU,bV⟩;obtain⟨A2,c2,rfl⟩:=fZ.val;have bI:=(cf.alloc (.cells #[.int .u8 (IntKind.u8.wrap k)] 5)).trans bV;have PK:=aa fZ;clear fZ bV;clear s1 s2 s3 s4;refine hK _ _ (dj.o _ (H2++[_]) (by simpa using aU)) (fun _=>?_);clear hK K hs;rename_i hs;have hZ:=aU;have lT:=bI;generalize w1.heap.size=gz at*;generalize w2=wz at*;clear aU bI aD cf;rotate_left;all_goals
  refine Zm 6 fun K hK=>?_;refine bf ee (by rfl) _ _ (by rfl) (by rfl) (by rfl) PK.o hZ (ag.ft (n:=1) (c:=1) (o:=0) (g:=gz) (hZ.get (b:=gz) (o:=(.cells #[.int .u8 (IntKind.u8.wrap k)] 5)) (by simp)) [.int .u8 (IntKind.u8.wrap k)] rfl (by omega) (by simp[maxLen]) (by intro j u hu;simpa using hu)) (by simp[Value.oneCell']) (by simp[maxLen]<;>omega) (by omega) ?_;intro A6 c6 w6 H6 gE bC eJ;refine hK _ _ (dj.o _ (H6++[_]) (by simpa using bC)) (fun _=>?_);clear hK K hs;rename_i hs;refine ji 7 ?_;refine Ze ?_;have cA:Holds w6 (H6++((g3,.cells #[.int .i64 k,.int .u64 a,.int .i64 s,.int .i64 g] 59)::Fr)):=Holds.DD (B:=[_]) bC;have jk:=lT.trans eJ;have LJ:ar (.slice A6 (d.length+1) c6) (d++[ph k 0]) H6:=by
   unfold ar;rw[aY,dm,List.map_singleton,IJ.o];exact gE
  clear hZ lT eJ bC hs gE;have HB6:=aa (LJ.at_ cA);have Sy:=aa (jM _ _ a 8 w6 _ (LJ.at_ cA) cA.right tI (by omega) (by simp;omega));obtain⟨q0,q1,q2,q3⟩:=dj.o _ _ cA;clear LJ HB6 cA;go_wp2_with fail
  refine Sy.o.mono ?_;rintro e w7⟨v7,H7,rfl,PL,cA,ka⟩;have agW:=jk.trans ka;have Iv:=aa (jM _ _ s 5 w7 _ (PL.at_ cA) cA.right (by omega) (by omega) (by simp[cG];omega));clear PL Sy q0 q1 q2 q3 jk ka;obtain⟨q0,q1,q2,q3⟩:=dj.o _ _ cA;clear cA;go_wp2_with fail
  refine Iv.o.mono ?_;rintro e w8⟨v8,H8,rfl,sg,cT,lT⟩;have agX:=agW.trans lT;have HF3:=aa (jM _ _ g 3 w8 _ (sg.at_ cT) cT.right (by omega) (by omega) (by simp only[aY,cG,fC,List.length_nil];omega));clear sg Iv q0 q1 q2 q3 agW lT;obtain⟨q0,q1,q2,q3⟩:=dj.o _ _ cT;clear cT;go_wp2_with fail
  refine HF3.o.mono ?_;rintro e w9⟨v9,H9,rfl,hb9,di,lT⟩;have agY:=agX.trans lT;have HF4:=aa (jM _ _ 0 6 w9 _ (hb9.at_ di) di.right (by omega) (by omega) (by simp only[aY,cG,fC,List.length_nil];omega));clear hb9 HF3 q0 q1 q2 q3 agX lT;obtain⟨q0,q1,q2,q3⟩:=dj.o _ _ di;clear di;go_wp2_with fail
  refine HF4.o.mono ?_;rintro e lQ⟨v10,iC,rfl,XQ,dU,lT⟩;have aaa:=agY.trans lT;rw[<-HP.o]at XQ;obtain⟨Zu,Zv,rfl⟩:=XQ.val;have OO:bN (iC++((g3,.cells #[.int .i64 k,.int .u64 a,.int .i64 s,.int .i64 g] 59)::Fr)) (.slice Zu pre.length Zv) pre:=fun wx hx=>XQ.at_ hx;have iq:=dU.alloc (.cells #[.slice Zu pre.length Zv] 60);have pH:=aa (YI (some ⟨lQ.heap.size,0,none⟩) (.slice Zu pre.length Zv) pre (lQ.alloc (.cells #[.slice Zu pre.length Zv] 60)) lQ.heap.size rfl (iq.ae 0) (OO _ iq.tail));have HF5:=aa (jM _ _ (zU pre) 4 _ _ (OO _ iq.tail) iq.tail (O6 pre).1 (by omega) (by have:=od.o;omega));have hsb:=O6 pre;have aab:=aaa.alloc (.cells #[.slice Zu pre.length Zv] 60);have Zq:=aa OO;clear HF4 q0 q1 q2 q3 agY lT XQ dU OO iq aaa;generalize hsf:zU pre=sf at*;clear hsf;go_wp2_with fail
  refine pH.o.mono ?_;rintro e uw⟨rfl,rfl⟩;clear pH;go_wp2_with fail
  refine HF5.o.mono ?_;rintro e Lo⟨v12,H12,rfl,abZ,nQ,lT⟩;have ai2:=aab.trans lT;have anc:=aa abZ;have dN:Holds Lo (H12++Fr):=by
   have h:Holds Lo ((H12++(iC++[(g3,.cells #[.int .i64 k,.int .u64 a,.int .i64 s,.int .i64 g] 59)]))++Fr):=by simpa using nQ
   have h2:Holds Lo (H12++((iC++[(g3,.cells #[.int .i64 k,.int .u64 a,.int .i64 s,.int .i64 g] 59)])++Fr)):=by simpa using h
   exact h2.DD
  obtain⟨A12,c12,rfl⟩:=abZ.val;have ik:=od.o;have hle:(pre++fG sf 4).length=d.length+27:=by simp[cG];omega
  have ane:=aa (show out=(pre++fG sf 4)++[0] by rw[Zr.o]);clear HF5 abZ nQ lT aab Zr;generalize pre++fG sf 4=pl at*;have vF:pl.length<=1000:=by omega
  clear hle ik;go_wp2_with (at_builtin;refine al ee (by rfl) (.tmp 48) (.tmp 49) (by rfl) (by rfl) (by rfl) anc.o (dN.bP _) ag.one (by simp[Value.oneCell']) (by simp[maxLen];omega) (by simp;omega) ?_;intro A' c' w' H' ay aB aX)
  go_ret2
  refine⟨_,H',rfl,?_,aB,(ai2.alloc _).trans aX⟩;rw[ane.o];unfold ar;rw[List.length_append (bs:=[0]),List.map_append (l₂:=[0])];exact ay
theorem Vc(v:Value)(d:List UInt8)(h:Hd)(w:World)(Fr:HL)(hb:aJ w v d)(hH:Holds w Fr)(lX:(sizedB d.length&&h.may)=false):
  Calls Tryz.prog 65 #[v,h.agg] w fun e w'=>∃ve He,e=.returned (.tuple #[.slice none 0 0,ve])∧bJ ve 2 He∧Holds w' (He++Fr)∧af w w':=by
 obtain⟨A,c,rfl⟩:=hb.val;have HS:=aa (fun w=>qu d.length w);have HM:=aa (fun w=>EL h w);have Oj:=ag.le hb;unfold maxLen at Oj;clear hb;generalize d.length=n at*;obtain⟨k,a,s,g⟩:=h;simp only[Hd.agg,Hd.cells]at*;have ax:=hH.bP (.cells #[.int .i64 k,.int .u64 a,.int .i64 s,.int .i64 g] 59);have aK:=(af.refl w).alloc (.cells #[.int .i64 k,.int .u64 a,.int .i64 s,.int .i64 g] 59);have hX:=hH.alloc (.cells #[.int .i64 k,.int .u64 a,.int .i64 s,.int .i64 g] 59);have y0:=hX.ae 0;have y1:=hX.ae 1;have y2:=hX.ae 2;have y3:=hX.ae 3;clear hX hH;cases hs:sizedB n with
 |false=>
  rw[hs]at HS;clear lX HM;go_enter func65,ntmps65;go_wp2_with fail
  refine(HS.o _).mono ?_;rintro e w'⟨rfl,rfl⟩;go_wp2_with fail
  go_ret2
  exact⟨_,_,rfl,CD (by decide) _ _,(by have h:=ax.alloc (.cells #[.int .i64 2,.string ⟨#[104,101,97,100]⟩] 143);simp only[World.size_alloc]at h;exact h),aK.alloc _⟩
 |true=>
  have hm:Hd.may ⟨k,a,s,g⟩=false:=by rw[hs]at lX;simpa using lX
  rw[hs]at HS;rw[hm]at HM;clear lX hm;go_enter func65,ntmps65;go_wp2_with fail
  refine(HS.o _).mono ?_;rintro e w'⟨rfl,rfl⟩;go_wp2_with fail
  refine(HM.o _).mono ?_;rintro e w'⟨rfl,rfl⟩;go_wp2_with fail
  go_ret2
  exact⟨_,_,rfl,CD (by decide) _ _,(by have h:=(ax.bP (.cells #[.int .i64 k,.int .u64 a,.int .i64 s,.int .i64 g] 59)).alloc (.cells #[.int .i64 2,.string ⟨#[104,101,97,100]⟩] 143);simp only[World.size_alloc]at h;exact h),(aK.alloc _).alloc _⟩
def hU(raw:List UInt8)(n:Nat):Hd:=⟨((raw.getD n 0).toNat:Int),oW ((raw.drop (n+1)).take 8),oW ((raw.drop (n+9)).take 5),oW ((raw.drop (n+14)).take 3)⟩
def fE(raw:List UInt8):Option (List UInt8×Hd):=
 if sizedB ((raw.length:Int)-28)=true∧(hU raw (raw.length-28)).may=true∧gC (raw.take (raw.length-28)) (hU raw (raw.length-28))=raw then some (raw.take (raw.length-28),hU raw (raw.length-28))else none
def ady(w:World)(Fr:HL)(e:Ending)(w':World):Prop:=∃st:Int,st≠1∧e=.returned (.tuple #[.slice none 0 0,Hd.zero.agg,.int .i64 st])∧Holds w' Fr∧af w w'
def YK(d:List UInt8)(h:Hd)(w:World)(Fr:HL)(e:Ending)(w':World):Prop:=∃v' H',e=.returned (.tuple #[v',h.agg,.int .i64 1])∧ar v' d H'∧Holds w' (H'++Fr)∧af w w'
theorem O8{bs:List UInt8}(h:bs.length<=5):oW bs<1099511627776:=by
 have h1:=(tj bs).2;have h2:(256:Int)^bs.length<=1099511627776:=by
  rcases(show bs.length=0∨bs.length=1∨bs.length=2∨bs.length=3∨bs.length=4∨bs.length=5 by omega)with e|e|e|e|e|e<;>rw[e]<;>decide
 omega
theorem aJ.pre{w:World}{A:Option Addr}{n c m:Nat}{bs:List UInt8}(h:aJ w (.slice A n c) bs)(hm:m<=bs.length):aJ w (.slice A m c) (bs.take m):=by
 obtain⟨_,A',c',hv,h1,h2,h3⟩:=h;injection hv with e1 e2 e3;subst e1 e2 e3;have hl:(bs.take m).length=m:=by rw[dG];omega
 refine⟨by simp,A,c,by rw[hl],by omega,h2,fun h0=>?_⟩;obtain⟨b,o,rfl,hc⟩:=h3 (by omega);refine⟨b,o,rfl,fun j u hu=>hc j u ?_⟩;rw[List.map_take,lE]at hu;split at hu
 ·exact hu
 ·cases hu
theorem iA{fn:Func}{p q r:Tmp}{ty:TypeId}(h:fn.results=#[.tmp p,.cell q ty,.tmp r])(tmps:Array Value)(P:Program)(w:World):
  (results fn tmps).run P w=((asAddr (tmps.getD q undef)).run P w).andThen fun a w₁=>((loadVar ty a).run P w₁).andThen fun v w₂=>.ok (.tuple #[tmps.getD p undef,v,tmps.getD r undef]) w₂:=by
 simp[results,h]
theorem adz{v:Value}{c:Int}{H:HL}(h:bJ v c H)(hc:c≠0:=by decide):∃b s,v=.iface 141 (.pointer (some ⟨b,0,none⟩))∧H=[(b,.cells #[.int .i64 c,.string s] 143)]:=by
 rcases h with⟨h,_,_⟩|⟨_,b,s,h1,h2⟩
 ·exact absurd h hc
 ·exact⟨b,s,h1,h2⟩
theorem bz{w:World}{g:Nat}{x0 x1 x2 x3:Value}{Fr:HL}(h:Holds w ((g,.cells #[x0,x1,x2,x3] 59)::Fr)):w.cell? ⟨g,0,none⟩=some x0∧w.cell? ⟨g,1,none⟩=some x1∧w.cell? ⟨g,2,none⟩=some x2∧w.cell? ⟨g,3,none⟩=some x3∧w.frozen? ⟨g,0,none⟩=false∧w.frozen? ⟨g,1,none⟩=false∧w.frozen? ⟨g,2,none⟩=false∧w.frozen? ⟨g,3,none⟩=false:=
 ⟨h.ae 0,h.ae 1,h.ae 2,h.ae 3,h.ah 0,h.ah 1,h.ah 2,h.ah 3⟩
theorem YL(g:Nat)(v:Int)(x0 x1 x2 x3:Value)(w:World)(Fr:HL)(h:Holds w ((g,.cells #[x0,x1,x2,x3] 59)::Fr)):
  Calls Tryz.prog 156 #[.int .u64 v,.pointer (some ⟨g,0,none⟩)] w fun e w'=>e=.returned (.tuple #[])∧Holds w' ((g,.cells #[x0,.int .u64 v,x2,x3] 59)::Fr)∧af w w':=by
 have hs:=h.ej 1 (.int .u64 v);have hg:=(af.refl w).setCell ⟨g,1,none⟩ (.int .u64 v);obtain⟨y0,y1,y2,y3,f0,f1,f2,f3⟩:=bz h;have hl:=h.aG;have HS:=aa hs;have HG:=aa hg;clear h hs hg;go_enter func156,ntmps156;go_wp2_with fail
 go_end0
 exact⟨rfl,HS.o,HG.o⟩
theorem YM(g:Nat)(v:Int)(x0 x1 x2 x3:Value)(w:World)(Fr:HL)(h:Holds w ((g,.cells #[x0,x1,x2,x3] 59)::Fr))(h0:0<=v)(h1:v<1099511627776):
  Calls Tryz.prog 157 #[.int .u64 v,.pointer (some ⟨g,0,none⟩)] w fun e w'=>e=.returned (.tuple #[])∧Holds w' ((g,.cells #[x0,x1,.int .i64 v,x3] 59)::Fr)∧af w w':=by
 have hs:=h.ej 2 (.int .i64 v);have hg:=(af.refl w).setCell ⟨g,2,none⟩ (.int .i64 v);obtain⟨y0,y1,y2,y3,f0,f1,f2,f3⟩:=bz h;have hl:=h.aG;have HS:=aa hs;have HG:=aa hg;clear h hs hg;go_enter func157,ntmps157;go_wp2_with fail
 go_end0
 exact⟨rfl,HS.o,HG.o⟩
theorem YN(g:Nat)(v:Int)(x0 x1 x2 x3:Value)(w:World)(Fr:HL)(h:Holds w ((g,.cells #[x0,x1,x2,x3] 59)::Fr))(h0:0<=v)(h1:v<1099511627776):
  Calls Tryz.prog 158 #[.int .u64 v,.pointer (some ⟨g,0,none⟩)] w fun e w'=>e=.returned (.tuple #[])∧Holds w' ((g,.cells #[x0,x1,x2,.int .i64 v] 59)::Fr)∧af w w':=by
 have hs:=h.ej 3 (.int .i64 v);have hg:=(af.refl w).setCell ⟨g,3,none⟩ (.int .i64 v);obtain⟨y0,y1,y2,y3,f0,f1,f2,f3⟩:=bz h;have hl:=h.aG;have HS:=aa hs;have HG:=aa hg;clear h hs hg;go_enter func158,ntmps158;go_wp2_with fail
 go_end0
 exact⟨rfl,HS.o,HG.o⟩
def TT(n:Nat):Nat->Nat
 |0=>n+1
 |1=>n+9
 |2=>n+14
 |_=>n+17
def hdC(raw:List UInt8)(n:Nat)(k:Nat):Array Value:=
 #[.int .i64 0,.int .u64 (if 1<=k then(hU raw n).a else 0),.int .i64 (if 2<=k then(hU raw n).s else 0),.int .i64 (if 3<=k then(hU raw n).g else 0)]
def anf(raw:List UInt8)(n:Nat)(r0:Value)(g:Nat)(R:HL)(w:World)(v i:Value)(wr:World):Prop:=
 ∃(k:Nat) (H:HL),k<=3∧i=.int .i64 k∧((k=0∧v=r0∧H=[])∨(1<=k∧ar v (raw.drop (TT n k)) H))∧Holds wr (H++((g,.cells (hdC raw n k) 59)::R))∧af w wr
def ai3(p:Option (List UInt8×Hd))(w:World)(Fr:HL)(e:Ending)(w':World):Prop:=match p with|some q=>YK q.1 q.2 w Fr e w'|none=>ady w Fr e w'
theorem JS(v:Value)(raw:List UInt8)(w:World)(Fr:HL)(hb:bN Fr v raw)(hH:Holds w Fr)(hl:raw.length<=1000):
  Calls Tryz.prog 86 #[v] w (ai3 (fE raw) w Fr):=by
 obtain⟨A,c,rfl⟩:=(hb w hH).val;obtain⟨rf,PM⟩:∃rf,rf=fE raw:=⟨_,rfl⟩;rw[<-PM];have Xg:=aa PM;clear PM;by_cases fT:sizedB ((raw.length:Int)-28)=true;rotate_left
 ·have Th:sizedB ((raw.length:Int)-28)=false:=by simpa using fT
  have Sz:=aa (show fE raw=none by unfold fE;rw[if_neg (fun h=>fT h.1)]);have Ma:=aa (Xg.o.trans Sz.o);have HS:=aa (fun w=>qu ((raw.length:Int)-28) w);rw[Th]at HS;have hq:=hH.alloc (.cells #[.int .i64 0,.int .u64 0,.int .i64 0,.int .i64 0] 59);have Ep:=(af.refl w).alloc (.cells #[.int .i64 0,.int .u64 0,.int .i64 0,.int .i64 0] 59);have fj:=aa (((((hq.ej 0 (.int .i64 0)).ej 1 (.int .u64 0)).ej 2 (.int .i64 0)).ej 3 (.int .i64 0)));have LK:=aa ((((Ep.setCell ⟨w.heap.size,0,none⟩ (.int .i64 0)).setCell ⟨w.heap.size,1,none⟩ (.int .u64 0)).setCell ⟨w.heap.size,2,none⟩ (.int .i64 0)).setCell ⟨w.heap.size,3,none⟩ (.int .i64 0));have HH:=aa hq;clear fT Th hb Ep;generalize raw.length=ln at*;go_enter func86,ntmps86;go_wp2_with fail
  refine(HS.o _).mono ?_;rintro e w'⟨rfl,rfl⟩;generalize w.alloc (.cells #[.int .i64 0,.int .u64 0,.int .i64 0,.int .i64 0] 59)=w0 at*;generalize w.heap.size=g3 at*;obtain⟨x0,x1,x2,x3,f0,f1,f2,f3⟩:=bz hq;have fl:=hq.aG;clear hq hH;go_wp2_with fail
  refine⟨rfl,_,(by rw[iA rfl];go_simp;rfl),?_⟩;rw[Ma.o];exact⟨2,by decide,rfl,fj.o.tail,LK.o⟩
 ·have hn:∃n:Nat,raw.length=n+28∧128<=n∧n<=256:=by
   unfold sizedB at fT;simp only[fW,decide_eq_true_eq]at fT;exact⟨raw.length-28,by omega,by omega,by omega⟩
  obtain⟨n,Zk,qM,tS⟩:=hn;have HS:=aa (fun w=>qu n w);rw[show sizedB (n:Int)=true by unfold sizedB;simp;omega]at HS;have Od:=aa Zk;have HB:=aa hb;obtain⟨b,o,rfl,LH,nO⟩:∃b o,A=some ⟨b,o,none⟩∧n+28<=c∧c<=maxLen:=by
   obtain⟨_,A',c',hv,h1,h2,ha⟩:=hb w hH;injection hv with gM _ kS;obtain⟨b,o,h,_⟩:=ha (by omega);exact⟨b,o,by rw[gM,h],by omega,by omega⟩
  unfold maxLen at nO;have PN:¬n+1=c:=by omega
  have e28:(raw.length:Int)-28=(n:Int):=by omega
  clear fT hb;go_enter func86,ntmps86;go_wp2_with fail
  refine(HS.o _).mono ?_;rintro e w'⟨rfl,rfl⟩;have hX:=((hH.alloc (.cells #[.int .i64 0,.int .u64 0,.int .i64 0,.int .i64 0] 59)).alloc (.cells #[.int .i64 0,.int .u64 0,.int .i64 0,.int .i64 0] 59)).alloc (.cells #[.int .i64 8,.func (Fn.func 156) #[] #[.pointer (some ⟨w.heap.size+1,0,none⟩)],.int .i64 5,.func (Fn.func 157) #[] #[.pointer (some ⟨w.heap.size+1,0,none⟩)],.int .i64 3,.func (Fn.func 158) #[] #[.pointer (some ⟨w.heap.size+1,0,none⟩)]] 216);simp only[World.size_alloc]at hX;have Zw:=(((af.refl w).alloc (.cells #[.int .i64 0,.int .u64 0,.int .i64 0,.int .i64 0] 59)).alloc (.cells #[.int .i64 0,.int .u64 0,.int .i64 0,.int .i64 0] 59)).alloc (.cells #[.int .i64 8,.func (Fn.func 156) #[] #[.pointer (some ⟨w.heap.size+1,0,none⟩)],.int .i64 5,.func (Fn.func 157) #[] #[.pointer (some ⟨w.heap.size+1,0,none⟩)],.int .i64 3,.func (Fn.func 158) #[] #[.pointer (some ⟨w.heap.size+1,0,none⟩)]] 216);have HR0:=aa (show∀wx:World,Holds wx Fr->aJ wx (.slice (some ⟨b,o+(n+1),none⟩) 27 (c-(n+1))) (raw.drop (n+1)) by
   intro wx hx;have h:=(HB.o wx hx);rw[Zk]at h;have h2:=aJ.drop h (k:=n+1) (by omega);have e1:n+28-(n+1)=27:=by omega
   rw[e1]at h2;simpa[cV]using h2)
  have HX:=aa hX;have HG:=aa Zw;clear hX Zw;go_wp2_with fail
  go_loopw [7,34] (fun v i wr=>anf raw n (.slice (some ⟨b,o+(n+1),none⟩) 27 (c-(n+1))) (w.heap.size+1) ((w.heap.size+1+1,(.cells #[.int .i64 8,.func (Fn.func 156) #[] #[.pointer (some ⟨w.heap.size+1,0,none⟩)],.int .i64 5,.func (Fn.func 157) #[] #[.pointer (some ⟨w.heap.size+1,0,none⟩)],.int .i64 3,.func (Fn.func 158) #[] #[.pointer (some ⟨w.heap.size+1,0,none⟩)]] 216))::((w.heap.size,(.cells #[.int .i64 0,.int .u64 0,.int .i64 0,.int .i64 0] 59))::Fr)) w v i wr) (fun _ i _=>3-(intOf i).toNat)
  case atStart=>
   have h:Holds _ (([]:HL)++((w.heap.size+1,(.cells #[.int .i64 0,.int .u64 0,.int .i64 0,.int .i64 0] 59))::((w.heap.size+1+1,(.cells #[.int .i64 8,.func (Fn.func 156) #[] #[.pointer (some ⟨w.heap.size+1,0,none⟩)],.int .i64 5,.func (Fn.func 157) #[] #[.pointer (some ⟨w.heap.size+1,0,none⟩)],.int .i64 3,.func (Fn.func 158) #[] #[.pointer (some ⟨w.heap.size+1,0,none⟩)]] 216))::((w.heap.size,(.cells #[.int .i64 0,.int .u64 0,.int .i64 0,.int .i64 0] 59))::Fr)))):=HX.o.p;exact⟨0,[],by omega,rfl,.inl ⟨rfl,rfl,rfl⟩,h,HG.o⟩
  case round=>
   clear hH;generalize w.heap.size+1+1=gL at*;generalize w.heap.size+1=g6 at*;generalize w.heap.size=g3 at*;obtain⟨k,H,hk,rfl,hv,eh,gf⟩:=hrel;rcases(show k=0∨k=1∨k=2∨k=3 by omega)with rfl|rfl|rfl|rfl
   ·have zK:=hv.resolve_right (fun h=>absurd h.1 (by omega));obtain⟨_,rfl,rfl⟩:=zK;have ux:Holds wr (([]:HL)++((g6,(.cells #[.int .i64 0,.int .u64 0,.int .i64 0,.int .i64 0] 59))::((gL,(.cells #[.int .i64 8,.func (Fn.func 156) #[] #[.pointer (some ⟨g6,0,none⟩)],.int .i64 5,.func (Fn.func 157) #[] #[.pointer (some ⟨g6,0,none⟩)],.int .i64 3,.func (Fn.func 158) #[] #[.pointer (some ⟨g6,0,none⟩)]] 216))::((g3,(.cells #[.int .i64 0,.int .u64 0,.int .i64 0,.int .i64 0] 59))::Fr)))):=eh;have WB:=HR0.o _ (ux.alloc (.cells #[.int .i64 8,.func (Fn.func 156) #[] #[.pointer (some ⟨g6,0,none⟩)]] 216)).tail.right.tail.tail.tail;have hA:=ux.alloc (.cells #[.int .i64 8,.func (Fn.func 156) #[] #[.pointer (some ⟨g6,0,none⟩)]] 216);have Zx:=gf.alloc (.cells #[.int .i64 8,.func (Fn.func 156) #[] #[.pointer (some ⟨g6,0,none⟩)]] 216);have x0:=ux.right.tail.ae 0;have x1:=ux.right.tail.ae 1;have tU:(raw.drop (n+1)).length=27:=by simp only[dA];omega
    have HU:=aa (tu _ (raw.drop (n+1)) 8 (wr.alloc (.cells #[.int .i64 8,.func (Fn.func 156) #[] #[.pointer (some ⟨g6,0,none⟩)]] 216)) _ WB hA (by omega) (by omega) (by omega));have z0:=hA.ae 0;have z1:=hA.ae 1;clear eh hv ux WB hA tU;go_wp2_with fail
    refine HU.o.mono ?_;rintro e w2⟨v2,H2,rfl,fZ,aB,aX⟩;obtain⟨A2,c2,rfl⟩:=fZ.val;have hF:=aB.right;have y0:=hF.ae 0;have y1:=hF.ae 1;have hC:Holds w2 ((g6,(.cells #[.int .i64 0,.int .u64 0,.int .i64 0,.int .i64 0] 59))::(H2++((gL,(.cells #[.int .i64 8,.func (Fn.func 156) #[] #[.pointer (some ⟨g6,0,none⟩)],.int .i64 5,.func (Fn.func 157) #[] #[.pointer (some ⟨g6,0,none⟩)],.int .i64 3,.func (Fn.func 158) #[] #[.pointer (some ⟨g6,0,none⟩)]] 216))::((g3,(.cells #[.int .i64 0,.int .u64 0,.int .i64 0,.int .i64 0] 59))::Fr)))):=by
     have h:Holds w2 (H2++((wr.heap.size,(.cells #[.int .i64 8,.func (Fn.func 156) #[] #[.pointer (some ⟨g6,0,none⟩)]] 216))::(([]:HL)++((g6,(.cells #[.int .i64 0,.int .u64 0,.int .i64 0,.int .i64 0] 59))::((gL,(.cells #[.int .i64 8,.func (Fn.func 156) #[] #[.pointer (some ⟨g6,0,none⟩)],.int .i64 5,.func (Fn.func 157) #[] #[.pointer (some ⟨g6,0,none⟩)],.int .i64 3,.func (Fn.func 158) #[] #[.pointer (some ⟨g6,0,none⟩)]] 216))::((g3,(.cells #[.int .i64 0,.int .u64 0,.int .i64 0,.int .i64 0] 59))::Fr)))))):=aB;exact h.p
    have pd:=aa (show Calls Tryz.prog 156 #[.int .u64 (oW ((raw.drop (n+1)).take 8)),.pointer (some ⟨g6,0,none⟩)] w2 _ from YL g6 (hU raw n).a _ _ _ _ w2 _ hC);have PK:Zh (ar (.slice A2 ((raw.drop (n+1)).drop 8).length c2) (raw.drop (n+9)) H2):=aa (by
     have e1:(raw.drop (n+1)).drop 8=raw.drop (n+9):=by rw[List.drop_drop]
     rw[e1]at fZ⊢;exact fZ)
    have Zy:=Zx.trans aX;clear HU z0 z1 x0 x1 fZ aB hF hC Zx aX gf;generalize((raw.drop (n+1)).drop 8).length=ln at*;go_wp2_with fail
    refine pd.o.mono ?_;rintro e w3⟨rfl,aD,bj⟩;have WC:=Zy.trans bj;clear pd y0 y1 Zy bj;go_wp2_with fail
    go_roundw
    case rel=>
     have hE:Holds w3 (H2++((g6,(.cells #[.int .i64 0,.int .u64 (hU raw n).a,.int .i64 0,.int .i64 0] 59))::((gL,(.cells #[.int .i64 8,.func (Fn.func 156) #[] #[.pointer (some ⟨g6,0,none⟩)],.int .i64 5,.func (Fn.func 157) #[] #[.pointer (some ⟨g6,0,none⟩)],.int .i64 3,.func (Fn.func 158) #[] #[.pointer (some ⟨g6,0,none⟩)]] 216))::((g3,(.cells #[.int .i64 0,.int .u64 0,.int .i64 0,.int .i64 0] 59))::Fr)))):=aD.p;exact⟨1,H2,by omega,by go_num,.inr ⟨by omega,PK.o⟩,hE,WC⟩
    case measure=>simp[intOf]
   ·have hvb:=(hv.resolve_left (fun h=>absurd h.1 (by omega))).2;obtain⟨Ak,ck,rfl⟩:=hvb.val;generalize nV:(raw.drop (TT n 1)).length=lk at*;clear nV;have ux:Holds wr (H++((g6,(.cells #[.int .i64 0,.int .u64 (hU raw n).a,.int .i64 0,.int .i64 0] 59))::((gL,(.cells #[.int .i64 8,.func (Fn.func 156) #[] #[.pointer (some ⟨g6,0,none⟩)],.int .i64 5,.func (Fn.func 157) #[] #[.pointer (some ⟨g6,0,none⟩)],.int .i64 3,.func (Fn.func 158) #[] #[.pointer (some ⟨g6,0,none⟩)]] 216))::((g3,(.cells #[.int .i64 0,.int .u64 0,.int .i64 0,.int .i64 0] 59))::Fr)))):=eh;have WB:=hvb.at_ (ux.alloc (.cells #[.int .i64 5,.func (Fn.func 157) #[] #[.pointer (some ⟨g6,0,none⟩)]] 216)).tail;simp only[TT]at WB;have hA:=ux.alloc (.cells #[.int .i64 5,.func (Fn.func 157) #[] #[.pointer (some ⟨g6,0,none⟩)]] 216);have Zx:=gf.alloc (.cells #[.int .i64 5,.func (Fn.func 157) #[] #[.pointer (some ⟨g6,0,none⟩)]] 216);have x0:=ux.right.tail.ae 2;have x1:=ux.right.tail.ae 3;have tU:(raw.drop (n+9)).length=19:=by simp only[dA];omega
    have HU:=aa (tu _ (raw.drop (n+9)) 5 (wr.alloc (.cells #[.int .i64 5,.func (Fn.func 157) #[] #[.pointer (some ⟨g6,0,none⟩)]] 216)) _ WB hA (by omega) (by omega) (by omega));have z0:=hA.ae 0;have z1:=hA.ae 1;clear eh hv ux WB hA tU;go_wp2_with fail
    refine HU.o.mono ?_;rintro e w2⟨v2,H2,rfl,fZ,aB,aX⟩;obtain⟨A2,c2,rfl⟩:=fZ.val;have hF:=aB.right;have y0:=hF.ae 0;have y1:=hF.ae 1;have hC:Holds w2 ((g6,(.cells #[.int .i64 0,.int .u64 (hU raw n).a,.int .i64 0,.int .i64 0] 59))::(H2++((gL,(.cells #[.int .i64 8,.func (Fn.func 156) #[] #[.pointer (some ⟨g6,0,none⟩)],.int .i64 5,.func (Fn.func 157) #[] #[.pointer (some ⟨g6,0,none⟩)],.int .i64 3,.func (Fn.func 158) #[] #[.pointer (some ⟨g6,0,none⟩)]] 216))::((g3,(.cells #[.int .i64 0,.int .u64 0,.int .i64 0,.int .i64 0] 59))::Fr)))):=by
     have h:Holds w2 (H2++((wr.heap.size,(.cells #[.int .i64 5,.func (Fn.func 157) #[] #[.pointer (some ⟨g6,0,none⟩)]] 216))::(H++((g6,(.cells #[.int .i64 0,.int .u64 (hU raw n).a,.int .i64 0,.int .i64 0] 59))::((gL,(.cells #[.int .i64 8,.func (Fn.func 156) #[] #[.pointer (some ⟨g6,0,none⟩)],.int .i64 5,.func (Fn.func 157) #[] #[.pointer (some ⟨g6,0,none⟩)],.int .i64 3,.func (Fn.func 158) #[] #[.pointer (some ⟨g6,0,none⟩)]] 216))::((g3,(.cells #[.int .i64 0,.int .u64 0,.int .i64 0,.int .i64 0] 59))::Fr)))))):=aB;exact h.p
    have pd:=aa (show Calls Tryz.prog 157 #[.int .u64 (oW ((raw.drop (n+9)).take 5)),.pointer (some ⟨g6,0,none⟩)] w2 _ from YM g6 (hU raw n).s _ _ _ _ w2 _ hC (tj _).1 (O8 (by simp only[dG];omega)));have PK:Zh (ar (.slice A2 ((raw.drop (n+9)).drop 5).length c2) (raw.drop (n+14)) H2):=aa (by
     have e1:(raw.drop (n+9)).drop 5=raw.drop (n+14):=by rw[List.drop_drop]
     rw[e1]at fZ⊢;exact fZ)
    have Zy:=Zx.trans aX;clear HU z0 z1 x0 x1 fZ aB hF hC Zx aX gf;generalize((raw.drop (n+9)).drop 5).length=ln at*;go_wp2_with fail
    refine pd.o.mono ?_;rintro e w3⟨rfl,aD,bj⟩;have WC:=Zy.trans bj;clear pd y0 y1 Zy bj;go_wp2_with fail
    go_roundw
    case rel=>
     have hE:Holds w3 (H2++((g6,(.cells #[.int .i64 0,.int .u64 (hU raw n).a,.int .i64 (hU raw n).s,.int .i64 0] 59))::((gL,(.cells #[.int .i64 8,.func (Fn.func 156) #[] #[.pointer (some ⟨g6,0,none⟩)],.int .i64 5,.func (Fn.func 157) #[] #[.pointer (some ⟨g6,0,none⟩)],.int .i64 3,.func (Fn.func 158) #[] #[.pointer (some ⟨g6,0,none⟩)]] 216))::((g3,(.cells #[.int .i64 0,.int .u64 0,.int .i64 0,.int .i64 0] 59))::Fr)))):=aD.p;exact⟨2,H2,by omega,by go_num,.inr ⟨by omega,PK.o⟩,hE,WC⟩
    case measure=>simp[intOf]
   ·have hvb:=(hv.resolve_left (fun h=>absurd h.1 (by omega))).2;obtain⟨Ak,ck,rfl⟩:=hvb.val;generalize nV:(raw.drop (TT n 2)).length=lk at*;clear nV;have ux:Holds wr (H++((g6,(.cells #[.int .i64 0,.int .u64 (hU raw n).a,.int .i64 (hU raw n).s,.int .i64 0] 59))::((gL,(.cells #[.int .i64 8,.func (Fn.func 156) #[] #[.pointer (some ⟨g6,0,none⟩)],.int .i64 5,.func (Fn.func 157) #[] #[.pointer (some ⟨g6,0,none⟩)],.int .i64 3,.func (Fn.func 158) #[] #[.pointer (some ⟨g6,0,none⟩)]] 216))::((g3,(.cells #[.int .i64 0,.int .u64 0,.int .i64 0,.int .i64 0] 59))::Fr)))):=eh;have WB:=hvb.at_ (ux.alloc (.cells #[.int .i64 3,.func (Fn.func 158) #[] #[.pointer (some ⟨g6,0,none⟩)]] 216)).tail;simp only[TT]at WB;have hA:=ux.alloc (.cells #[.int .i64 3,.func (Fn.func 158) #[] #[.pointer (some ⟨g6,0,none⟩)]] 216);have Zx:=gf.alloc (.cells #[.int .i64 3,.func (Fn.func 158) #[] #[.pointer (some ⟨g6,0,none⟩)]] 216);have x0:=ux.right.tail.ae 4;have x1:=ux.right.tail.ae 5;have tU:(raw.drop (n+14)).length=14:=by simp only[dA];omega
    have HU:=aa (tu _ (raw.drop (n+14)) 3 (wr.alloc (.cells #[.int .i64 3,.func (Fn.func 158) #[] #[.pointer (some ⟨g6,0,none⟩)]] 216)) _ WB hA (by omega) (by omega) (by omega));have z0:=hA.ae 0;have z1:=hA.ae 1;clear eh hv ux WB hA tU;go_wp2_with fail
    refine HU.o.mono ?_;rintro e w2⟨v2,H2,rfl,fZ,aB,aX⟩;obtain⟨A2,c2,rfl⟩:=fZ.val;have hF:=aB.right;have y0:=hF.ae 0;have y1:=hF.ae 1;have hC:Holds w2 ((g6,(.cells #[.int .i64 0,.int .u64 (hU raw n).a,.int .i64 (hU raw n).s,.int .i64 0] 59))::(H2++((gL,(.cells #[.int .i64 8,.func (Fn.func 156) #[] #[.pointer (some ⟨g6,0,none⟩)],.int .i64 5,.func (Fn.func 157) #[] #[.pointer (some ⟨g6,0,none⟩)],.int .i64 3,.func (Fn.func 158) #[] #[.pointer (some ⟨g6,0,none⟩)]] 216))::((g3,(.cells #[.int .i64 0,.int .u64 0,.int .i64 0,.int .i64 0] 59))::Fr)))):=by
     have h:Holds w2 (H2++((wr.heap.size,(.cells #[.int .i64 3,.func (Fn.func 158) #[] #[.pointer (some ⟨g6,0,none⟩)]] 216))::(H++((g6,(.cells #[.int .i64 0,.int .u64 (hU raw n).a,.int .i64 (hU raw n).s,.int .i64 0] 59))::((gL,(.cells #[.int .i64 8,.func (Fn.func 156) #[] #[.pointer (some ⟨g6,0,none⟩)],.int .i64 5,.func (Fn.func 157) #[] #[.pointer (some ⟨g6,0,none⟩)],.int .i64 3,.func (Fn.func 158) #[] #[.pointer (some ⟨g6,0,none⟩)]] 216))::((g3,(.cells #[.int .i64 0,.int .u64 0,.int .i64 0,.int .i64 0] 59))::Fr)))))):=aB;exact h.p
    have pd:=aa (show Calls Tryz.prog 158 #[.int .u64 (oW ((raw.drop (n+14)).take 3)),.pointer (some ⟨g6,0,none⟩)] w2 _ from YN g6 (hU raw n).g _ _ _ _ w2 _ hC (tj _).1 (O8 (by simp only[dG];omega)));have PK:Zh (ar (.slice A2 ((raw.drop (n+14)).drop 3).length c2) (raw.drop (n+17)) H2):=aa (by
     have e1:(raw.drop (n+14)).drop 3=raw.drop (n+17):=by rw[List.drop_drop]
     rw[e1]at fZ⊢;exact fZ)
    have Zy:=Zx.trans aX;clear HU z0 z1 x0 x1 fZ aB hF hC Zx aX gf;generalize((raw.drop (n+14)).drop 3).length=ln at*;go_wp2_with fail
    refine pd.o.mono ?_;rintro e w3⟨rfl,aD,bj⟩;have WC:=Zy.trans bj;clear pd y0 y1 Zy bj;go_wp2_with fail
    go_roundw
    case rel=>
     have hE:Holds w3 (H2++((g6,(.cells #[.int .i64 0,.int .u64 (hU raw n).a,.int .i64 (hU raw n).s,.int .i64 (hU raw n).g] 59))::((gL,(.cells #[.int .i64 8,.func (Fn.func 156) #[] #[.pointer (some ⟨g6,0,none⟩)],.int .i64 5,.func (Fn.func 157) #[] #[.pointer (some ⟨g6,0,none⟩)],.int .i64 3,.func (Fn.func 158) #[] #[.pointer (some ⟨g6,0,none⟩)]] 216))::((g3,(.cells #[.int .i64 0,.int .u64 0,.int .i64 0,.int .i64 0] 59))::Fr)))):=aD.p;exact⟨3,H2,by omega,by go_num,.inr ⟨by omega,PK.o⟩,hE,WC⟩
    case measure=>simp[intOf]
   ·have ux:Holds wr ((g6,(.cells #[.int .i64 0,.int .u64 (hU raw n).a,.int .i64 (hU raw n).s,.int .i64 (hU raw n).g] 59))::((gL,(.cells #[.int .i64 8,.func (Fn.func 156) #[] #[.pointer (some ⟨g6,0,none⟩)],.int .i64 5,.func (Fn.func 157) #[] #[.pointer (some ⟨g6,0,none⟩)],.int .i64 3,.func (Fn.func 158) #[] #[.pointer (some ⟨g6,0,none⟩)]] 216))::((g3,(.cells #[.int .i64 0,.int .u64 0,.int .i64 0,.int .i64 0] 59))::Fr))):=by
     have h:Holds wr (H++((g6,(.cells #[.int .i64 0,.int .u64 (hU raw n).a,.int .i64 (hU raw n).s,.int .i64 (hU raw n).g] 59))::((gL,(.cells #[.int .i64 8,.func (Fn.func 156) #[] #[.pointer (some ⟨g6,0,none⟩)],.int .i64 5,.func (Fn.func 157) #[] #[.pointer (some ⟨g6,0,none⟩)],.int .i64 3,.func (Fn.func 158) #[] #[.pointer (some ⟨g6,0,none⟩)]] 216))::((g3,(.cells #[.int .i64 0,.int .u64 0,.int .i64 0,.int .i64 0] 59))::Fr)))):=eh;exact h.right
    have Sx:n<raw.length:=by omega
    have hBV:=HB.o wr ux.tail.tail.tail;have vp:wr.cell? ⟨b,o+n,none⟩=some (.int .u8 (raw[n].toNat:Int)):=by
     obtain⟨_,A',c',xD,_,_,ha⟩:=hBV;injection xD with e1 _ _;obtain⟨b',o',e2,hc⟩:=ha (by omega);rw[e2]at e1;injection e1 with e1;injection e1 with e1 e3;subst e1 e3;exact hc n _ (by rw[dW,bF Sx];rfl)
    have rQ:(hU raw n).k=(raw[n].toNat:Int):=by unfold hU;rw[jR,bF Sx];rfl
    have hIN:zW (hU raw n):=⟨(tj _).1,by
     have h:=(tj ((raw.drop (n+1)).take 8)).2;rw[show((raw.drop (n+1)).take 8).length=8 by simp only[dG,dA];omega]at h;exact h⟩
    have agZ:fE raw=if(hU raw n).may=true∧gC (raw.take n) (hU raw n)=raw then some (raw.take n,hU raw n)else none:=by
     unfold fE;rw[show raw.length-28=n by omega,e28,show sizedB (n:Int)=true by unfold sizedB;simp;omega];simp
    have Dt:(raw[n].toNat:Int)<256:=by have:=raw[n].toNat_lt;omega
    have hx0:(0:Int)<=(raw[n].toNat:Int):=by omega
    have Ip:(raw.take n).length=n:=by rw[dG];omega
    generalize hU raw n=hd at*;obtain⟨hk,ha,FP,hg⟩:=hd;dsimp only at rQ;rw[<-rQ]at vp Dt hx0;clear rQ;have ab0:=aa agZ;have Am:=aa hIN;have BO:=ux.ej 0 (.int .i64 hk);have ax:Holds (wr.setCell ⟨g6,0,none⟩ (.int .i64 hk)) ((g6,(.cells #[.int .i64 hk,.int .u64 ha,.int .i64 FP,.int .i64 hg] 59))::((gL,(.cells #[.int .i64 8,.func (Fn.func 156) #[] #[.pointer (some ⟨g6,0,none⟩)],.int .i64 5,.func (Fn.func 157) #[] #[.pointer (some ⟨g6,0,none⟩)],.int .i64 3,.func (Fn.func 158) #[] #[.pointer (some ⟨g6,0,none⟩)]] 216))::((g3,(.cells #[.int .i64 0,.int .u64 0,.int .i64 0,.int .i64 0] 59))::Fr))):=BO;have aK:=gf.setCell ⟨g6,0,none⟩ (.int .i64 hk);obtain⟨y0,y1,y2,y3,f0,f1,f2,f3⟩:=bz ux;have fl:=ux.aG;clear eh hv hBV BO ux agZ hIN;go_upto_region 14 with fail
    change Code.wp _ _ _ _ (wr.setCell ⟨g6,0,none⟩ (.int .i64 hk));generalize wr.setCell ⟨g6,0,none⟩ (.int .i64 hk)=wS at*;clear y0 y1 y2 y3 f0 f1 f2 f3 fl vp Sx Dt hx0;have Xh:Zh (bN Fr (.slice (some ⟨b,o,none⟩) n c) (raw.take n)):=aa (fun wx hx=>by
     have h:=HB.o wx hx;have h2:=aJ.pre (m:=n) h (by omega);exact h2)
    have dj:Zh (∀(wx:World) (X:HL),Holds wx (X++((g6,(.cells #[.int .i64 hk,.int .u64 ha,.int .i64 FP,.int .i64 hg] 59))::((gL,(.cells #[.int .i64 8,.func (Fn.func 156) #[] #[.pointer (some ⟨g6,0,none⟩)],.int .i64 5,.func (Fn.func 157) #[] #[.pointer (some ⟨g6,0,none⟩)],.int .i64 3,.func (Fn.func 158) #[] #[.pointer (some ⟨g6,0,none⟩)]] 216))::((g3,(.cells #[.int .i64 0,.int .u64 0,.int .i64 0,.int .i64 0] 59))::Fr))))->wx.cell? ⟨g6,0,none⟩=some (.int .i64 hk)∧wx.cell? ⟨g6,1,none⟩=some (.int .u64 ha)∧wx.cell? ⟨g6,2,none⟩=some (.int .i64 FP)∧wx.cell? ⟨g6,3,none⟩=some (.int .i64 hg)):=aa (fun wx X hX=>⟨hX.right.ae 0,hX.right.ae 1,hX.right.ae 2,hX.right.ae 3⟩);have IV:=aa Ip;have PC:n<=c:=by omega
    cases oX:Hd.may ⟨hk,ha,FP,hg⟩with
    |true=>
     have Zr:=aa (fun(wx:World) (F:HL) (hf:bN F (.slice (some ⟨b,o,none⟩) n c) (raw.take n)) (hx:Holds wx F)=>O7 (.slice (some ⟨b,o,none⟩) n c) (raw.take n) ⟨hk,ha,FP,hg⟩ wx F hf hx (by rw[Ip];unfold sizedB;simp;omega) oX Am.o);simp only[Hd.agg,Hd.cells]at Zr;clear Ip;refine aF (fun wx=>wx.cell? ⟨g6,0,none⟩=some (.int .i64 hk)∧wx.cell? ⟨g6,1,none⟩=some (.int .u64 ha)∧wx.cell? ⟨g6,2,none⟩=some (.int .i64 FP)∧wx.cell? ⟨g6,3,none⟩=some (.int .i64 hg)) 10 (by kernel_rfl) (fun w1 hd=>dj.o _ [] (ax.dr hd)) (fun w1 hd hs=>?_);have aD:=ax.dr hd;have cf:=aK.trans (af.dr hd);clear hd ax aK;refine dY 0 1 2 3 ?_;refine Zm 4 fun K hK=>?_;go_simp;refine(Zr.o w1 _ (fun wx hx=>Xh.o wx hx.tail.tail.tail) aD).mono ?_;rintro e w4 ⟨v4,H4,rfl,pG,aU,bV⟩;obtain⟨A4,c4,rfl⟩:=pG.val;have Du:=aa pG;have bI:=cf.trans bV;clear aD cf bV pG;refine hK _ _ (dj.o _ H4 aU) (fun _=>?_);clear hK K hs;rename_i hs;refine dY 5 6 7 8 ?_;refine ji 9 ?_;refine Ze ?_;generalize DU:gC (raw.take n) ⟨hk,ha,FP,hg⟩=lay at*;have Mb:=aa DU;clear DU;have hRB:=HB.o w4 aU.right.tail.tail.tail;have vq:=aa (QO _ _ lay raw w4 (Du.o.at_ aU) hRB);rw[Od.o]at vq;generalize lay.length=ll at*;have ei:=cC;by_cases hE:lay=raw
     ·have Sz:=aa (show fE raw=some (raw.take n,⟨hk,ha,FP,hg⟩) by rw[ab0.o,if_pos ⟨oX,hE⟩]);rw[decide_eq_true hE]at vq;have Ma:=aa (Xg.o.trans Sz.o);have bg:Holds w4 ((g6,(.cells #[.int .i64 hk,.int .u64 ha,.int .i64 FP,.int .i64 hg] 59))::((gL,(.cells #[.int .i64 8,.func (Fn.func 156) #[] #[.pointer (some ⟨g6,0,none⟩)],.int .i64 5,.func (Fn.func 157) #[] #[.pointer (some ⟨g6,0,none⟩)],.int .i64 3,.func (Fn.func 158) #[] #[.pointer (some ⟨g6,0,none⟩)]] 216))::((g3,(.cells #[.int .i64 0,.int .u64 0,.int .i64 0,.int .i64 0] 59))::Fr))):=aU.right;have ang:=aa (fun(wx:World) (F:HL) (hb:aJ wx (.slice (some ⟨b,o,none⟩) n c) (raw.take n)) (hx:Holds wx F)=>lf (.slice (some ⟨b,o,none⟩) n c) (raw.take n) wx F hb hx (by rw[IV.o];omega));have Ds:Zh (∀(wx:World) (X:HL),Holds wx (X++((g6,(.cells #[.int .i64 hk,.int .u64 ha,.int .i64 FP,.int .i64 hg] 59))::((gL,(.cells #[.int .i64 8,.func (Fn.func 156) #[] #[.pointer (some ⟨g6,0,none⟩)],.int .i64 5,.func (Fn.func 157) #[] #[.pointer (some ⟨g6,0,none⟩)],.int .i64 3,.func (Fn.func 158) #[] #[.pointer (some ⟨g6,0,none⟩)]] 216))::((g3,(.cells #[.int .i64 0,.int .u64 0,.int .i64 0,.int .i64 0] 59))::Fr))))->wx.cell? ⟨g6,0,none⟩=some (.int .i64 hk)∧wx.cell? ⟨g6,1,none⟩=some (.int .u64 ha)∧wx.cell? ⟨g6,2,none⟩=some (.int .i64 FP)∧wx.cell? ⟨g6,3,none⟩=some (.int .i64 hg)∧wx.cell? ⟨g3,0,none⟩=some (.int .i64 0)∧wx.cell? ⟨g3,1,none⟩=some (.int .u64 0)∧wx.cell? ⟨g3,2,none⟩=some (.int .i64 0)∧wx.cell? ⟨g3,3,none⟩=some (.int .i64 0)∧wx.frozen? ⟨g3,0,none⟩=false∧wx.frozen? ⟨g3,1,none⟩=false∧wx.frozen? ⟨g3,2,none⟩=false∧wx.frozen? ⟨g3,3,none⟩=false):=aa (fun wx X hX=>⟨hX.right.ae 0,hX.right.ae 1,hX.right.ae 2,hX.right.ae 3,hX.right.tail.tail.ae 0,hX.right.tail.tail.ae 1,hX.right.tail.tail.ae 2,hX.right.tail.tail.ae 3,hX.right.tail.tail.ah 0,hX.right.tail.tail.ah 1,hX.right.tail.tail.ah 2,hX.right.tail.tail.ah 3⟩);clear hs hRB aU hE;go_wp2_with fail
      refine vq.o.mono ?_;rintro e w5⟨rfl,q5,rfl⟩;have bC:=bg.drewN q5;have jn:=bI.drewN q5;generalize w4.drewN q5=w5 at*;clear vq bg bI ei;go_upto_region 17 with fail
      refine nR (fun wx=>wx.cell? ⟨g6,0,none⟩=some (.int .i64 hk)∧wx.cell? ⟨g6,1,none⟩=some (.int .u64 ha)∧wx.cell? ⟨g6,2,none⟩=some (.int .i64 FP)∧wx.cell? ⟨g6,3,none⟩=some (.int .i64 hg)∧wx.cell? ⟨g3,0,none⟩=some (.int .i64 0)∧wx.cell? ⟨g3,1,none⟩=some (.int .u64 0)∧wx.cell? ⟨g3,2,none⟩=some (.int .i64 0)∧wx.cell? ⟨g3,3,none⟩=some (.int .i64 0)∧wx.frozen? ⟨g3,0,none⟩=false∧wx.frozen? ⟨g3,1,none⟩=false∧wx.frozen? ⟨g3,2,none⟩=false∧wx.frozen? ⟨g3,3,none⟩=false) 6 (by kernel_rfl) (fun w1 hd=>Ds.o _ [] (bC.dr hd)) (fun w1 hd hs=>?_);have cA:=bC.dr hd;have fx:=jn.trans (af.dr hd);clear hd bC jn;refine Yv 0 ?_;refine Yv 1 ?_;refine Yv 2 ?_;refine Yu 4 ?_;simp only[pt,sA,sS,sZ];refine Ym 3 fun K hK=>?_;have⟨s0,s1,s2,s3,t0,t1,t2,t3,f0,f1,f2,f3⟩:=hs;go_simp;refine(ang.o w1 _ (Xh.o w1 cA.tail.tail.tail) cA).mono ?_;rintro e w8 ⟨v8,H8,rfl,sg,cT,ka⟩;obtain⟨A8,c8,rfl⟩:=sg.val;have Er:=aa sg;have iT:=fx.trans ka;clear sg ka cA fx;clear s0 s1 s2 s3 t0 t1 t2 t3 f0 f1 f2 f3;refine hK _ _ (Ds.o _ H8 cT) (fun _=>?_);clear hK K hs;rename_i hs;refine Yv 5 ?_;simp only[pt,sA,sS,sZ];refine Yl 6 fun K hK=>?_;have⟨s0,s1,s2,s3,t0,t1,t2,t3,f0,f1,f2,f3⟩:=hs;go_simp;clear s0 s1 s2 s3 t0 t1 t2 t3 f0 f1 f2 f3 hs;refine hK _ _ ?_;clear hK K;refine Yl 7 fun K hK=>?_;go_simp;refine hK _ _ ?_;clear hK K;refine Ye ?_;have hz:Holds w8 ((g3,(.cells #[.int .i64 0,.int .u64 0,.int .i64 0,.int .i64 0] 59))::(H8++Fr)):=cT.p;have fj:=aa ((((hz.ej 0 (.int .i64 hk)).ej 1 (.int .u64 ha)).ej 2 (.int .i64 FP)).ej 3 (.int .i64 hg));have LK:=aa ((((iT.setCell ⟨g3,0,none⟩ (.int .i64 hk)).setCell ⟨g3,1,none⟩ (.int .u64 ha)).setCell ⟨g3,2,none⟩ (.int .i64 FP)).setCell ⟨g3,3,none⟩ (.int .i64 hg));change Exit.then _ _ _ _ ((((w8.setCell ⟨g3,0,none⟩ (.int .i64 hk)).setCell ⟨g3,1,none⟩ (.int .u64 ha)).setCell ⟨g3,2,none⟩ (.int .i64 FP)).setCell ⟨g3,3,none⟩ (.int .i64 hg));generalize(((w8.setCell ⟨g3,0,none⟩ (.int .i64 hk)).setCell ⟨g3,1,none⟩ (.int .u64 ha)).setCell ⟨g3,2,none⟩ (.int .i64 FP)).setCell ⟨g3,3,none⟩ (.int .i64 hg)=wF at*;have hF:=fj.o;obtain⟨x0,x1,x2,x3,_,_,_,_⟩:=bz hF;have hFl:=hF.aG;have hFT:=aa hF.tail;clear hz cT iT hF fj;go_wp2_with fail
      refine⟨rfl,_,(by rw[iA rfl];go_simp;rfl),?_⟩;rw[Ma.o];exact⟨_,H8,rfl,(by have h:=Er.o;rw[IV.o]at h;exact h),hFT.o,LK.o⟩
     ·have Sz:=aa (show fE raw=none by rw[ab0.o,if_neg (fun h=>hE h.2)]);rw[decide_eq_false hE]at vq;have Ma:=aa (Xg.o.trans Sz.o);have bg:Holds w4 ((g6,(.cells #[.int .i64 hk,.int .u64 ha,.int .i64 FP,.int .i64 hg] 59))::((gL,(.cells #[.int .i64 8,.func (Fn.func 156) #[] #[.pointer (some ⟨g6,0,none⟩)],.int .i64 5,.func (Fn.func 157) #[] #[.pointer (some ⟨g6,0,none⟩)],.int .i64 3,.func (Fn.func 158) #[] #[.pointer (some ⟨g6,0,none⟩)]] 216))::((g3,(.cells #[.int .i64 0,.int .u64 0,.int .i64 0,.int .i64 0] 59))::Fr))):=aU.right;clear hs hRB aU hE;go_wp2_with fail
      refine vq.o.mono ?_;rintro e w5⟨rfl,q5,rfl⟩;have bC:=bg.drewN q5;have jn:=bI.drewN q5;generalize w4.drewN q5=w5 at*;clear vq bg bI ei;have hq:=bC.tail.tail;have Ep:=jn;have kV:=aa (zo (.slice (some ⟨b,o,none⟩) (n+28) c) raw w5 (by have h:=HB.o w5 hq.tail;rw[Od.o]at h;exact h));have fj:=aa (((((hq.ej 0 (.int .i64 0)).ej 1 (.int .u64 0)).ej 2 (.int .i64 0)).ej 3 (.int .i64 0)));have LK:=aa ((((Ep.setCell ⟨g3,0,none⟩ (.int .i64 0)).setCell ⟨g3,1,none⟩ (.int .u64 0)).setCell ⟨g3,2,none⟩ (.int .i64 0)).setCell ⟨g3,3,none⟩ (.int .i64 0));obtain⟨x0,x1,x2,x3,f0,f1,f2,f3⟩:=bz hq;have fl:=hq.aG;clear hq Ep bC jn;go_wp2_with fail
      refine kV.o.mono ?_;rintro e w9⟨st,rfl,bD,rfl⟩;have ab1:=aa bD;clear bD;go_wp2_with fail
      refine⟨rfl,_,(by rw[iA rfl];go_simp;rfl),?_⟩;rw[Ma.o];exact⟨st,ab1.o,rfl,fj.o.tail,LK.o⟩
    |false=>
     have Sz:=aa (show fE raw=none by rw[ab0.o,if_neg (fun h=>by rw[oX]at h;exact absurd h.1 (by decide))]);have Ma:=aa (Xg.o.trans Sz.o);have Zr:=aa (fun(wx:World) (F:HL) (hf:aJ wx (.slice (some ⟨b,o,none⟩) n c) (raw.take n)) (hx:Holds wx F)=>Vc (.slice (some ⟨b,o,none⟩) n c) (raw.take n) ⟨hk,ha,FP,hg⟩ wx F hf hx (by rw[oX,Bool.and_false]));simp only[Hd.agg,Hd.cells]at Zr;clear Ip;refine aF (fun wx=>wx.cell? ⟨g6,0,none⟩=some (.int .i64 hk)∧wx.cell? ⟨g6,1,none⟩=some (.int .u64 ha)∧wx.cell? ⟨g6,2,none⟩=some (.int .i64 FP)∧wx.cell? ⟨g6,3,none⟩=some (.int .i64 hg)) 10 (by kernel_rfl) (fun w1 hd=>dj.o _ [] (ax.dr hd)) (fun w1 hd hs=>?_);have aD:=ax.dr hd;have cf:=aK.trans (af.dr hd);clear hd ax aK;refine dY 0 1 2 3 ?_;refine Zm 4 fun K hK=>?_;go_simp;refine(Zr.o w1 _ (Xh.o w1 aD.tail.tail.tail) aD).mono ?_;rintro e w4 ⟨ve,He,rfl,j9,aU,bV⟩;have bI:=cf.trans bV;clear aD cf bV;refine hK _ _ (dj.o _ He aU) (fun _=>?_);clear hK K hs;rename_i hs;refine dY 5 6 7 8 ?_;refine ji 9 ?_;refine Ze ?_;obtain⟨be,se,rfl,rfl⟩:=adz j9;have ei:=cS (.pointer (some ⟨be,0,none⟩));have bC:=aU.right;clear hs aU j9;have hq:=bC.tail.tail;have Ep:=bI;have kV:=aa (zo (.slice (some ⟨b,o,none⟩) (n+28) c) raw w4 (by have h:=HB.o w4 hq.tail;rw[Od.o]at h;exact h));have fj:=aa (((((hq.ej 0 (.int .i64 0)).ej 1 (.int .u64 0)).ej 2 (.int .i64 0)).ej 3 (.int .i64 0)));have LK:=aa ((((Ep.setCell ⟨g3,0,none⟩ (.int .i64 0)).setCell ⟨g3,1,none⟩ (.int .u64 0)).setCell ⟨g3,2,none⟩ (.int .i64 0)).setCell ⟨g3,3,none⟩ (.int .i64 0));obtain⟨x0,x1,x2,x3,f0,f1,f2,f3⟩:=bz hq;have fl:=hq.aG;clear hq Ep bC bI;go_wp2_with fail
     refine kV.o.mono ?_;rintro e w9⟨st,rfl,bD,rfl⟩;have ab1:=aa bD;clear bD;go_wp2_with fail
     refine⟨rfl,_,(by rw[iA rfl];go_simp;rfl),?_⟩;rw[Ma.o];exact⟨st,ab1.o,rfl,fj.o.tail,LK.o⟩
theorem anw(i:Nat):(2:Int)^(8*i)=256^i:=by rw[Int.pow_mul];rfl
theorem M4(n:Int)(m:Nat)(h0:0<=n)(h1:n<256^m):∀j,j<=m->oW (nJ n m j)=n/256^(m-j):=by
 intro j
 induction j with
 |zero=>
  intro _;rw[Nat.sub_zero,Int.ediv_eq_zero_of_lt h0 h1];rfl
 |succ j ih=>
  intro hj;have e:nJ n m (j+1)=nJ n m j++[ph n (m-1-j)]:=by unfold nJ;rw[ub,dm];rfl
  obtain⟨e1,Tr⟩:∃e1,m-(j+1)=e1:=⟨_,rfl⟩;rw[e,yt,ih (by omega),show m-j=e1+1 by omega,show m-1-j=e1 by omega,Tr];unfold ph;rw[anw,Int.pow_succ,<-Int.ediv_ediv_of_nonneg (Int.pow_nonneg (by decide))];generalize n/256^e1=q;have hq:(UInt8.ofNat ((q%256).toNat)).toNat=(q%256).toNat:=by
   rw[vQ];omega
  rw[hq];omega
theorem wJ{n:Int}{m:Nat}(h0:0<=n)(h1:n<256^m):oW (fG n m)=n:=by
 unfold fG;rw[M4 n m h0 h1 m (aN _),qg,Int.pow_zero,Int.ediv_one]
theorem ace{α:Type}{A B C:List α}{n m:Nat}(hn:A.length=n)(hm:B.length=m):((A++(B++C)).drop n).take m=B:=by
 subst hn hm;rw[List.drop_left,List.take_left]
theorem VJ(d:List UInt8)(h:Hd)(hm:h.may=true)(hi:zW h):hU (gC d h) d.length=h:=by
 have hb:=Hd.Vb hm;obtain⟨i1,i2⟩:=hi;have e:gC d h=d++([ph h.k 0]++(fG h.a 8++(fG h.s 5++(fG h.g 3++(fG 0 6++(fG (zU (zV d h)) 4++[0])))))):=by
  simp only[gC,zV,cE]
 generalize fG 0 6++(fG (zU (zV d h)) 4++[0])=R at e;unfold hU;have e1:(gC d h).getD d.length 0=ph h.k 0:=by rw[e];simp[jR]
 have e2:((gC d h).drop (d.length+1)).take 8=fG h.a 8:=by
  rw[e,<-cE d];exact ace (by simp) (cG _ _)
 have e3:((gC d h).drop (d.length+9)).take 5=fG h.s 5:=by
  rw[e,<-cE d,<-cE (d++_)];exact ace (by simp[cG]) (cG _ _)
 have e4:((gC d h).drop (d.length+14)).take 3=fG h.g 3:=by
  rw[e,<-cE d,<-cE (d++_),<-cE ((d++_)++_)];exact ace (by simp[cG]) (cG _ _)
 rw[e1,e2,e3,e4,wJ i1 (by simpa using i2),wJ (by omega) (by have:=hb.2.2.2.1;omega),wJ hb.2.2.2.2.1 (by have:=hb.2.2.2.2.2;omega)];have hk:(((ph h.k 0).toNat:Nat):Int)=h.k:=by
  unfold ph;rw[vQ];simp;omega
 rw[hk]
theorem EY(d:List UInt8)(h:Hd)(hs:sizedB d.length=true)(hm:h.may=true)(hi:zW h):fE (gC d h)=some (d,h):=by
 have hl:=sI d h;have e1:(gC d h).length-28=d.length:=by omega
 have e2:((gC d h).length:Int)-28=d.length:=by omega
 have e3:(gC d h).take d.length=d:=by
  unfold gC zV;simp only[cE];exact List.take_left
 unfold fE;rw[e1,e2,VJ d h hm hi,e3,if_pos ⟨hs,hm,rfl⟩]
theorem CJ{raw:List UInt8}(h:raw.getLast?≠some 0):fE raw=none:=by
 unfold fE;rw[if_neg];rintro⟨_,_,h3⟩;refine h ?_;rw[<-h3];unfold gC;simp
def jt:Nat->Nat->List UInt8
 |0,n=>[UInt8.ofNat n]
 |f+1,n=>if n<=127 then[UInt8.ofNat n]else UInt8.ofNat (n%128+128)::jt f (n/128)
def dH(n:Int):List UInt8:=jt 9 n.toNat
theorem Cj{f n:Nat}(h:n<=127):jt f n=[UInt8.ofNat n]:=by
 cases f with
 |zero=>rfl
 |succ f=>rw[jt,if_pos h]
theorem Ck{f n:Nat}(h:127<n):jt (f+1) n=UInt8.ofNat (n%128+128)::jt f (n/128):=by rw[jt,if_neg (by omega)]
theorem Rr(f n:Nat):1<=(jt f n).length∧(jt f n).length<=f+1:=by
 induction f generalizing n with
 |zero=>exact⟨aN _,aN _⟩
 |succ f ih=>
  rw[jt];split
  ·simp
  ·have:=ih (n/128);rw[fC];omega
theorem ie(n:Int):1<=(dH n).length∧(dH n).length<=10:=Rr 9 _
theorem MG(k:Nat):128^(k+1)=128^k*128:=Nat.pow_succ ..
theorem GM{f m:Nat}(h:127<m)(hf:m<128^(f+1)):∃g,f=g+1∧m/128<128^(g+1):=by
 cases f with
 |zero=>simp at hf;omega
 |succ g=>exact⟨g,rfl,by rw[MG]at hf;omega⟩
theorem Cl{n:Nat}(h:n<18446744073709551616):n<128^(9+1):=by
 have:128^(9+1)=1180591620717411303424:=by decide
 omega
structure Nt where
 gone:Bool
 e:az
def Nt.cells(n:Nt):List Value:=.bool n.gone::n.e.cells
def Nt.ok(n:Nt):Bool:=decide (1<=n.e.seq)&&decide (n.e.seq<=1099511627775)&&(if n.gone then decide (n.e.aW=0)&& !n.e.bR else decide (0<=n.e.aW)&&decide (n.e.aW<=255))
def dD(n:Nt):List UInt8:=(dH n.e.addr++dH n.e.seq)++(if n.gone then[0]else(if n.e.bR then[2]else[1])++dH n.e.aW)
def dB(ns:List Nt):List UInt8:=dH ns.length++(ns.map dD).flatten
def eX(ns:List Nt)(size:Nat):List UInt8:=dB ns++List.replicate (size-(dB ns).length) 0
theorem nY{ns:List Nt}{size:Nat}(h:(dB ns).length<=size):(eX ns size).length=size:=by
 unfold eX;rw[aY,gV];omega
def mY(size:Nat)(ns:List Nt):Nat->Nat
 |0=>0
 |k+1=>if(dB (ns.take (k+1))).length<=size then k+1 else mY size ns k
def p9(size:Nat)(ns:List Nt):Nat:=mY size ns ns.length
def Qe(e:az):List UInt8:=(fG e.addr 8++fG e.seq 5)++fG (e.aW+if e.bR then 32768 else 0) 2
theorem VU(e:az):(Qe e).length=15:=by simp[Qe,cG]
def kA(es:List az):List UInt8:=(es.map Qe).flatten
theorem tB(es:List az):(kA es).length=es.length*15:=by
 unfold kA
 induction es with
 |nil=>rfl
 |cons e es ih=>rw[ku,kr,aY,ih,VU,fC];omega
def Qf(number parts:Nat)(name:List UInt8)(many:Nat):List UInt8:=((fG number 2++fG parts 2)++[UInt8.ofNat many,UInt8.ofNat name.length])++(name++List.replicate (36-name.length) 0)
def xT(size number parts:Nat)(name:List UInt8)(es:List az):List UInt8:=(Qf number parts name es.length++kA es)++List.replicate (size-(42+es.length*15)) 0
theorem J9{number parts:Nat}{name:List UInt8}{many:Nat}(h:name.length<=36):(Qf number parts name many).length=42:=by
 simp[Qf,cG];omega
theorem Ka{size number parts:Nat}{name:List UInt8}{es:List az}(h:name.length<=36)(hs:42+es.length*15<=size):(xT size number parts name es).length=size:=by
 unfold xT;rw[aY,aY,J9 h,tB,gV];omega
def chunk(es:List az)(k:Nat):List az:=(es.drop (k*5)).take 5
def cq(bs:List UInt8):ByteArray:=⟨bs.toArray⟩
theorem YU(b:ByteArray):∀(k i:Nat) (r:List UInt8),i+k=b.size->ByteArray.toList.loop b i r=r.reverse++b.data.toList.drop i:=by
 intro k
 induction k with
 |zero=>
  intro i r h;unfold ByteArray.toList.loop;rw[if_neg (by omega),BN (by show b.data.toList.length<=i;rw[vP];show b.size<=i;omega),kZ]
 |succ k ih=>
  intro i r h;unfold ByteArray.toList.loop;rw[if_pos (by omega),ih (i+1) _ (by omega)];have hi:i<b.data.toList.length:=by rw[vP];show i<b.size;omega
  have hg:b.get! i=b.data.toList[i]:=by
   obtain⟨d⟩:=b;show d[i]! =d.toList[i];rw[getElem!_pos d i (by simpa using hi)];simp
  rw[nF hi,List.reverse_cons,cE,hg];rfl
theorem GO(b:ByteArray):b.toList=b.data.toList:=by
 unfold ByteArray.toList;rw[YU b b.size 0 [] (by omega)];simp
theorem yK(bs:List UInt8):(cq bs).toList=bs:=by rw[GO];simp[cq]
theorem uQ{w:World}{A:Option Addr}{n c:Nat}{bs:List UInt8}(h:aJ w (.slice A n c) bs):(convert 60 9 (.slice A n c)).run Tryz.prog w=.ok (.string (cq bs)) w:=by
 obtain⟨_,A',c',hv,_,_,cm⟩:=h;injection hv with h1 h2 h3;subst h1 h2 h3;have hs:Tryz.prog.underlying 60=some (.slice 5):=by kernel_rfl
 have he:Tryz.prog.underlying 5=some (.int .u8):=by kernel_rfl
 have hd:Tryz.prog.underlying 9=some .string:=by kernel_rfl
 rcases nG bs.length with h0|h0
 ·have hb:bs=[]:=jW h0;subst hb;cases A with
  |none=>exact run_convert_bytes_nil w 60 5 hs he _ _ _ hd
  |some a=>
   have hl:(loadCells a 0).run Tryz.prog w=.ok #[] w:=by simp[loadCells,loadCellsFrom]
   rw[run_convert_bytes_string w _ _ _ _ _ _ hs he hd];exact run_bytesToString w a 0 c [] (by simpa using hl)
 ·obtain⟨b,o,rfl,bm⟩:=cm h0;have:=run_convert_bytes_arg (P:=Tryz.prog) w 60 5 hs he b o bs.length c (bs.map fun x=>(x.toNat:Int)) (by simp) (fun i hi=>by
   rw[bm i _ (by rw[dW,bF hi];rfl)];simp[bF hi,bh]) 9 hd
  rw[this];congr 2;unfold strOfNums cq;congr 1;simp;rw[show((fun n:Int=>UInt8.ofNat n.toNat)∘fun x:UInt8=>(x.toNat:Int))=id from funext fun x=>by simp];exact List.map_id _
theorem CX(va vb:Value)(xs ys:List UInt8)(w:World)(ha:aJ w va xs)(hb:aJ w vb ys):Calls Tryz.prog 187 #[va,vb] w fun e w'=>e=.returned (.bool (decide (xs=ys)))∧w=w':=by
 obtain⟨A,c,rfl⟩:=ha.val;obtain⟨B,d,rfl⟩:=hb.val;have k1:=uQ ha;have k2:=uQ hb;have HE:=aa (show decide (xs=ys)=((cq xs).toList==(cq ys).toList) by rw[yK,yK];by_cases h:xs=ys<;>simp[h]);generalize decide (xs=ys)=r at*;generalize cq xs=S at*;generalize cq ys=T at*;go_enter func187,ntmps187;go_wp2_with fail
 go_ret;exact⟨by rw[HE.o];rfl,rfl⟩
theorem uo(r lo hi:Int)(w:World):Calls Tryz.prog 167 #[.int .i32 r,.int .i32 lo,.int .i32 hi] w fun e w'=>e=.returned (.bool (decide (lo<=r)&&decide (r<=hi)))∧w=w':=by
 by_cases h:lo<=r
 ·have e1:decide (lo<=r)=true:=decide_eq_true h;rw[e1];go_enter func167,ntmps167;go_wp2_with fail
  go_ret;exact⟨rfl,rfl⟩
 ·have e1:decide (lo<=r)=false:=decide_eq_false h;rw[e1];go_enter func167,ntmps167;go_wp2_with fail
  go_ret;exact⟨rfl,rfl⟩
theorem B4(r lo hi:Int)(w:World)(h:r<lo∨hi<r):Calls Tryz.prog 167 #[.int .i32 r,.int .i32 lo,.int .i32 hi] w fun e w'=>e=.returned (.bool false)∧w=w':=by
 refine(uo r lo hi w).mono ?_;rintro e w'⟨rfl,rfl⟩;refine⟨?_,rfl⟩;rcases h with h|h
 ·rw[decide_eq_false (by omega)];rfl
 ·rw[decide_eq_false (p:=r<=hi) (by omega),Bool.and_false]
theorem Nv(r:Int)(w:World)(h1:97<=r)(h2:r<=122):Calls Tryz.prog 165 #[.int .i32 r] w fun e w'=>e=.returned (.bool false)∧w=w':=by
 have H1:=aa (fun wx=>B4 r 65 90 wx (by omega));have H2:=aa (fun wx=>B4 r 192 222 wx (by omega));have H3:=aa (fun wx=>B4 r 913 937 wx (by omega));go_enter func165,ntmps165;go_wp2_with fail
 refine(H1.o _).mono ?_;rintro e wx⟨rfl,rfl⟩;go_wp2_with fail
 refine(H2.o _).mono ?_;rintro e wx⟨rfl,rfl⟩;go_wp2_with fail
 refine(H3.o _).mono ?_;rintro e wx⟨rfl,rfl⟩;go_wp2_with fail
 go_ret;exact⟨rfl,rfl⟩
theorem Rw(r:Int)(w:World)(h1:97<=r)(h2:r<=122):Calls Tryz.prog 166 #[.int .i32 r] w fun e w'=>e=.returned (.bool false)∧w=w':=by
 have H1:=aa (fun wx=>B4 r 19968 40959 wx (by omega));go_enter func166,ntmps166;go_wp2_with fail
 refine(H1.o _).mono ?_;rintro e wx⟨rfl,rfl⟩;go_wp2_with fail
 go_ret;exact⟨rfl,rfl⟩
theorem Nw(r:Int)(w:World)(h1:97<=r)(h2:r<=122):Calls Tryz.prog 93 #[.int .i32 r] w fun e w'=>e=.returned (.bool true)∧w=w':=by
 have H1:=aa (fun wx=>Nv r wx h1 h2);have H2:=aa (fun wx=>Rw r wx h1 h2);have H3:=aa (fun wx=>B4 r 48 57 wx (by omega));have H4:=aa (fun wx=>uo r 97 122 wx);have e4:(decide (97<=r)&&decide (r<=122))=true:=by rw[decide_eq_true h1,decide_eq_true h2];rfl
 rw[e4]at H4;have b1:(r==45)=false:=beq_eq_false_iff_ne.2 (by omega);have b2:(r==95)=false:=beq_eq_false_iff_ne.2 (by omega);clear e4;go_enter func93,ntmps93;go_wp2_with fail
 refine(H1.o _).mono ?_;rintro e wx⟨rfl,rfl⟩;go_wp2_with fail
 refine(H2.o _).mono ?_;rintro e wx⟨rfl,rfl⟩;go_wp2_with fail
 refine(H3.o _).mono ?_;rintro e wx⟨rfl,rfl⟩;go_wp2_with fail
 refine(H4.o _).mono ?_;rintro e wx⟨rfl,rfl⟩;go_wp2_with fail
 go_ret;exact⟨rfl,rfl⟩
theorem V1(S:ByteArray)(w:World)(h:1<=S.size)(hn:(S.extract 0 1).toList≠[45]):Calls Tryz.prog 162 #[.string S,.string ⟨#[45]⟩] w fun e w'=>e=.returned (.bool false)∧w=w':=by
 have hI:(1:Int)<=(S.size:Int):=by omega
 have hb:((S.extract 0 1).toList==[45])=false:=beq_eq_false_iff_ne.2 hn;go_enter func162,ntmps162;go_wp2_with fail
 go_ret;exact⟨rfl,rfl⟩
theorem V2(S:ByteArray)(w:World)(h:1<=S.size)(hs:S.size<=100)(hn:(S.extract (S.size-1) S.size).toList≠[45]):Calls Tryz.prog 163 #[.string S,.string ⟨#[45]⟩] w fun e w'=>e=.returned (.bool false)∧w=w':=by
 have hI:(1:Int)<=(S.size:Int):=by omega
 have hb:((S.extract (S.size-1) S.size).toList==[45])=false:=beq_eq_false_iff_ne.2 hn;have hw:IntKind.i64.wrap ((S.size:Int)-1)=((S.size-1:Nat):Int):=by rw[IntKind.wrap_i64];omega
 have PE:wrap64 ((S.size:Int)-1)=((S.size-1:Nat):Int):=by unfold wrap64;omega
 go_enter func163,ntmps163;go_wp2_with fail
 go_ret;exact⟨rfl,rfl⟩
theorem adZ(S:ByteArray)(w:World)(h:1<=S.size)(hn:(S.extract 0 1).toList≠[45]):Calls Tryz.prog 90 #[.string S,.string ⟨#[45]⟩] w fun e w'=>e=.returned (.bool false)∧w=w':=by
 have H1:=aa (fun wx=>V1 S wx h hn);go_enter func90,ntmps90;go_wp2_with fail
 refine(H1.o _).mono ?_;rintro e wx⟨rfl,rfl⟩;go_wp2_with fail
 go_ret;exact⟨rfl,rfl⟩
theorem ad0(S:ByteArray)(w:World)(h:1<=S.size)(hs:S.size<=100)(hn:(S.extract (S.size-1) S.size).toList≠[45]):Calls Tryz.prog 91 #[.string S,.string ⟨#[45]⟩] w fun e w'=>e=.returned (.bool false)∧w=w':=by
 have H1:=aa (fun wx=>V2 S wx h hs hn);go_enter func91,ntmps91;go_wp2_with fail
 refine(H1.o _).mono ?_;rintro e wx⟨rfl,rfl⟩;go_wp2_with fail
 go_ret;exact⟨rfl,rfl⟩
theorem mE(bs:List UInt8):(cq bs).size=bs.length:=by show bs.toArray.size=_;simp
theorem Rx{l t:List UInt8}{x:UInt8}(h:l=x::t):cq t=(cq l).extract 1 (cq l).size:=by
 subst h;apply ByteArray.ext;rw[ByteArray.data_extract];show t.toArray=(x::t).toArray.extract 1 (x::t).toArray.size;simp
theorem Ry{l t:List UInt8}{x:UInt8}(h:l=x::t){hl:0<(cq l).size}:(cq l)[0]'hl=x:=by
 subst h;rfl
def anQ(bs:List UInt8)(w:World)(sv:Value)(wr:World):Prop:=∃k:Nat,k<=bs.length∧sv=.string (cq (bs.drop k))∧wr=w
theorem Rz(bs:List UInt8)(w:World)(hl:bs.length<=8)(hb:∀b∈bs,b.toNat<128):Calls Tryz.prog 92 #[.string (cq bs)] w fun e w'=>e=.returned (.bool true)∧w=w':=by
 have HB:=aa hb;clear hb;go_enter func92,ntmps92;go_wp2_with fail
 go_loopw [0] (fun sv wr=>anQ bs w sv wr) (fun sv _=>(match sv with| .string s=>s.size|_=>0))
 case atStart=>exact⟨0,by omega,by rw[List.drop_zero],rfl⟩
 case round=>
  obtain⟨k,hk,rfl,rfl⟩:=hrel;by_cases aG:k<bs.length
  ·have hs:(cq (bs.drop k)).size=bs.length-k:=by rw[show(cq (bs.drop k)).size=(bs.drop k).length by show(bs.drop k).toArray.size=_;simp,dA]
   have hx:cq (bs.drop (k+1))=(cq (bs.drop k)).extract 1 (cq (bs.drop k)).size:=Rx (nF aG);have th:((cq (bs.drop k)).extract 1 (cq (bs.drop k)).size).size=bs.length-k-1:=by rw[<-hx,mE,dA];omega
   have Wu:∀h:0<(cq (bs.drop k)).size,(((cq (bs.drop k))[0]'h).toNat:Int)<128:=fun h=>by
    rw[Ry (nF aG)];have:=HB.o _ (cX aG);omega
   obtain⟨S,hS⟩:∃S,S=cq (bs.drop k):=⟨_,rfl⟩;rw[<-hS]at hs hx th Wu⊢;have HX:=aa hx;have Tw:=aa hs;clear hS hx;have hS0:0<S.size:=by omega
   have jj:=Wu hS0;have tP:(0:Int)<(S.size:Int):=by omega
   have DL:¬(8:Int)<((S.extract 1 S.size).size:Int):=by omega
   have WN:1<=S.size:=hS0;have hSI:(1:Int)<=(S.size:Int):=by omega
   have HD:=aa (show(S.extract 1 S.size).size<S.size by omega);clear hs th Wu;go_upto_region 5 with fail
   clear jj;generalize(S[0]'hS0).toNat=b0;clear tP hSI WN hS0 Tw;have Iw:=aa DL;obtain⟨T,hT⟩:∃T,T=S.extract 1 S.size:=⟨_,rfl⟩;rw[<-hT]at HX Iw HD;rw[<-hT];clear hT;have anR:=Iw.o;go_wp2_with fail
   refine⟨⟨k+1,by omega,by rw[HX.o],rfl⟩,?_⟩;exact HD.o
  ·have xt:k=bs.length:=by omega
   subst xt;rw[List.drop_length];have hz:(cq []).size=0:=rfl;obtain⟨S,hS⟩:∃S,S=cq []:=⟨_,rfl⟩;rw[<-hS]at hz⊢;clear hS;have tW:¬(0:Int)<(S.size:Int):=by omega
   clear HB;go_wp2_with fail
   go_ret;exact⟨rfl,rfl⟩
def yZ(bs:List UInt8):Prop:=1<=bs.length∧bs.length<=8∧∀b∈bs,97<=b.toNat∧b.toNat<=122
theorem yZ.first{bs:List UInt8}(h:yZ bs):((cq bs).extract 0 1).toList≠[45]:=by
 obtain⟨h1,h2,h3⟩:=h;rw[GO,ByteArray.data_extract];show(bs.toArray.extract 0 1).toList≠[45];intro hc;rw[Array.toList_extract]at hc;have hm:(45:UInt8)∈bs:=by
  have:(45:UInt8)∈bs.toArray.toList.extract 0 1:=by rw[hc];simp
  simp[List.extract]at this;exact rJ this
 have:=h3 _ hm;simp at this
theorem yZ.last{bs:List UInt8}(h:yZ bs):((cq bs).extract ((cq bs).size-1) (cq bs).size).toList≠[45]:=by
 obtain⟨h1,h2,h3⟩:=h;rw[GO,ByteArray.data_extract];generalize(cq bs).size=n;show(bs.toArray.extract (n-1) n).toList≠[45];intro hc;rw[Array.toList_extract]at hc;have hm:(45:UInt8)∈bs:=by
  have:(45:UInt8)∈bs.toArray.toList.extract (n-1) n:=by rw[hc];simp
  simp[List.extract]at this;exact List.mem_of_mem_drop (rJ this)
 have:=h3 _ hm;simp at this
theorem yL(bs:List UInt8)(w:World)(h:yZ bs):Calls Tryz.prog 48 #[.string (cq bs)] w fun e w'=>e=.returned (.bool true)∧Below w.heap.size w w':=by
 have h1:=h.1;have h2:=h.2.1;have H3:=aa h.2.2;have HS:=aa (show(cq bs).size=bs.length from mE bs);have HP:=aa (fun wx=>adZ (cq bs) wx (by rw[mE];exact h1) h.first);have HF:=aa (fun wx=>ad0 (cq bs) wx (by rw[mE];exact h1) (by rw[mE];omega) h.last);have HV:=aa (fun wx=>Rz bs wx h2 (fun b hb=>by have:=h.2.2 b hb;omega));have ei:((cq bs).toList==([]:List UInt8))=false:=beq_eq_false_iff_ne.2 (fun hc=>by rw[yK]at hc;subst hc;simp at h1);have HX:=aa (fun(i:Nat) (hi:i<(cq bs).size)=>show 97<=((cq bs)[i]'hi).toNat∧((cq bs)[i]'hi).toNat<=122 from h.2.2 _ (by
  have:(cq bs)[i]'hi=bs[i]'(by rw[mE]at hi;exact hi):=rfl;rw[this];exact cX _))
 obtain⟨S,hSS⟩:∃S,S=cq bs:=⟨_,rfl⟩;rw[<-hSS]at HS HP HF HV ei HX⊢;have DH:=HS.o;clear H3 hSS;go_enter func48,ntmps48;go_wp2_with fail
 refine(HP.o _).mono ?_;rintro e wx⟨rfl,rfl⟩;go_wp2_with fail
 refine(HF.o _).mono ?_;rintro e wx⟨rfl,rfl⟩;go_wp2_with fail
 refine(HV.o _).mono ?_;rintro e wx⟨rfl,rfl⟩;clear ei HP HF HV;go_wp2_with fail
 go_loopw [3] (fun n w'=>∃pos:Nat,w'=w.iter S pos∧pos<=S.size∧n=.int .i64 (pos:Int)) (fun _ w'=>S.size-w'.iterPos w.heap.size)
 case atStart=>exact⟨0,rfl,by omega,rfl⟩
 case round=>
  obtain⟨pos,rfl,xv,rfl⟩:=hrel;by_cases hp:pos<S.size
  ·have hx:=HX.o pos hp;have Dr:∀ty,(Instr.next (.pointer (some ⟨w.heap.size,0,none⟩)) true ty).run Tryz.prog (w.iter S pos)=_:=fun ty=>run_next_ascii w S pos ty hp (by omega);have HG:=aa (fun wx=>Nw ((S[pos]'hp).toNat:Int) wx (by omega) (by omega));generalize(S[pos]'hp).toNat=x at Dr HG hx;have acu:¬(12:Int)<(pos:Int)+1:=by omega
   have hw:wrap64 ((pos:Int)+1)=(pos:Int)+1:=by unfold wrap64;omega
   have PE:IntKind.i64.wrap ((pos:Int)+1)=(pos:Int)+1:=by rw[IntKind.wrap_i64];omega
   go_wp2_with fail
   refine(HG.o _).mono ?_;rintro e wx⟨rfl,rfl⟩;clear HG hx;go_wp2_with fail
   go_roundw
   case rel=>exact⟨pos+1,rfl,by omega,by simp⟩
   case measure=>
    simp;omega
  ·have Dr:∀ty,(Instr.next (.pointer (some ⟨w.heap.size,0,none⟩)) true ty).run Tryz.prog (w.iter S pos)=_:=fun ty=>run_next_end w S pos ty hp;go_wp2_with fail
   go_ret;exact⟨rfl,(Below.refl _ _).alloc (aN _) _⟩
end Go.Proofs.YtalnifciidblkaaGreatDoor
