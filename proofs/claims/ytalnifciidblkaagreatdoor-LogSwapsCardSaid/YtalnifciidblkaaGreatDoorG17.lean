/-
  Lemmas.
-/
import Derived.Test.YtalnifciidblkaaGreatDoorG00
import Derived.Laws.Bits64b
import Derived.Deep.DeepCutAuto
import Derived.Shelf.SlicesQ.IndexFunc
import Derived.Shelf.SlGeneric
import Derived.Lib.AppendZeros
import Derived.Shelf.SlSortCmp.WholeK
import Derived.Shelf.SlSortCmp.NoneTotal
namespace Go.Proofs.YtalnifciidblkaaGreatDoor
open _root_.Go.Proofs.Tryz
open Go.RowKit
set_option linter.unusedSimpArgs false
set_option linter.unusedVariables false
set_option maxRecDepth 20000
set_option maxHeartbeats 1000000
def ph(n:Int)(i:Nat):UInt8:=UInt8.ofNat (((n/2^(8*i))%256).toNat)
def nJ(n:Int)(many j:Nat):List UInt8:=(List.range j).map fun t=>ph n (many-1-t)
def fG(n:Int)(many:Nat):List UInt8:=nJ n many many
theorem cG(n:Int)(many:Nat):(fG n many).length=many:=by simp[fG,nJ]
theorem CC(n:Int)(i:Nat):bh (ph n i)=.int .u8 ((n/2^(8*i))%256):=by
 have h0:0<=(n/2^(8*i))%256∧(n/2^(8*i))%256<256:=by omega
 unfold bh ph;generalize(n/2^(8*i))%256=r at h0⊢;obtain⟨r,rfl⟩:=Int.eq_ofNat_of_zero_le h0.1;simp only[Int.toNat_natCast,vQ];congr 1;omega
def adw(bs:List UInt8)(n:Int)(many:Nat)(w:World)(Fr:HL)(v i:Value)(wr:World):Prop:=
 ∃(j:Nat) (H:HL),j<=many∧i=.int .i64 ((many:Int)-1-j)∧ar v (bs++nJ n many j) H∧Holds wr (H++Fr)∧af w wr
theorem jM(v:Value)(bs:List UInt8)(n:Int)(many:Nat)(w:World)(Fr:HL)(hb:aJ w v bs)(hH:Holds w Fr)(hn:0<=n)(hm:many<=8)(kJ:bs.length<=100000):
  Calls Tryz.prog 133 #[v,.int .u64 n,.int .i64 many] w (cB (fun v H=>ar v (bs++fG n many) H) w Fr):=by
 have HC:=aa (lf v bs w Fr hb hH (by omega));obtain⟨A,c,rfl⟩:=hb.val;clear hb hH;go_enter func133,ntmps133;go_wp2_with fail
 refine HC.o.mono ?_;rintro e w1⟨v1,H1,rfl,jj,ax,aK⟩;have zI:=aa jj;clear HC jj;go_wp2_with fail
 go_loopw [7,8] (fun v i wr=>adw bs n many w Fr v i wr) (fun _ i _=>(intOf i+1).toNat)
 case atStart=>exact⟨0,H1,by omega,by go_num,by simpa[nJ]using zI.o,ax,aK⟩
 case round=>
  obtain⟨j,H,hj,rfl,hb,hH,hg⟩:=hrel;have HB:=aa hb;clear hb;have HJ:=aa hj;by_cases h1:j<many
  ·obtain⟨i,hi⟩:∃i:Nat,many=j+i+1:=⟨many-1-j,by omega⟩;have tJ:(many:Int)-1-j=(i:Int):=by omega
   have Wz:i<=7:=by omega
   have HI:=aa hi;have HT:=aa (show bs++nJ n many (j+1)=(bs++nJ n many j)++[ph n i] by
    unfold nJ;rw[ub,dm,cE,List.map_singleton,show many-1-j=i by omega])
   have HL:=aa (show(bs++nJ n many j).length<=200000 by simp[nJ];omega);rw[tJ];clear hi tJ h1 hj;go_wp2_with (at_builtin;refine al ee (by rfl) (.tmp 24) (.tmp 30) (by rfl) (by rfl) (by rfl) HB.o (hH.bP _) ag.one (by simp[Value.oneCell']) (by have:=HL.o;simp only[maxLen];omega) (by have:=HL.o;omega) ?_;intro A' c' w' H' ay aB aX)
   go_roundw
   case rel=>
    refine⟨j+1,H',by have:=HI.o;omega,by have:=HI.o;go_num,?_,aB,(hg.alloc _).trans aX⟩;rw[HT.o];unfold ar;rw[<-CC]at ay;have e1:((bs++nJ n many j)++[ph n i]).length=(bs++nJ n many j).length+1:=by simp only[aY,fC,List.length_nil]
    rw[e1,List.map_append (l₁:=bs++nJ n many j)];simp only[aY,ku,List.map_nil]at ay⊢;exact ay
   case measure=>simp only[intOf];omega
  ·have hj2:j=many:=by omega
   have tJ:(many:Int)-1-j=-1:=by omega
   rw[tJ];subst hj2;go_wp2_with fail
   go_ret;exact⟨_,H,rfl,HB.o,hH,hg⟩
def oW(bs:List UInt8):Int:=bs.foldl (fun n x=>n*256+x.toNat) 0
theorem yt(bs:List UInt8)(x:UInt8):oW (bs++[x])=oW bs*256+x.toNat:=by unfold oW;rw[List.foldl_append];rfl
theorem tj(bs:List UInt8):0<=oW bs∧oW bs<256^bs.length:=by
 have key:∀(n:Nat) (bs:List UInt8),bs.length=n->0<=oW bs∧oW bs<256^n:=by
  intro n
  induction n with
  |zero=>intro bs h;rw[jW h];simp[oW]
  |succ n ih=>
   intro bs h;obtain⟨bs',x,rfl⟩:∃bs' x,bs=bs'++[x]:=by
    rcases List.eq_nil_or_concat bs with e|⟨a,x,e⟩
    ·simp[e]at h
    ·exact⟨a,x,by simpa using e⟩
   obtain⟨h1,h2⟩:=ih bs' (by simpa using h);rw[yt];have h3:(x.toNat:Int)<256:=by have:=x.toNat_lt;omega
   have h4:(256:Int)^(n+1)=256^n*256:=Int.pow_succ ..;rw[h4];omega
 exact key _ bs rfl
theorem YH{z:Int}{x:Nat}(h0:0<=z)(h1:z<72057594037927936)(hx:x<256):bits BinOp.or IntKind.u64 (IntKind.u64.wrap (z*256)) (x:Int)=z*256+x:=by
 obtain⟨n,rfl⟩:=Int.eq_ofNat_of_zero_le h0;rw[IntKind.wrap_u64,show((n:Int)*256)%18446744073709551616=((2^8*n:Nat):Int) by omega,bits_or_u64_nat _ _ (by omega) (by omega),<-Nat.two_pow_add_eq_or_of_lt (by omega) n];omega
theorem QN{k:Nat}(h:k<=7):(256:Int)^k<=72057594037927936:=by
 rcases(show k=0∨k=1∨k=2∨k=3∨k=4∨k=5∨k=6∨k=7 by omega)with rfl|rfl|rfl|rfl|rfl|rfl|rfl|rfl<;>decide
theorem aJ.drop{w:World}{A:Option Addr}{n c:Nat}{bs:List UInt8}(h:aJ w (.slice A n c) bs){k:Nat}(hk:k<=bs.length):aJ w (.slice (A.map fun x=>x.add k) (n-k) (c-k)) (bs.drop k):=by
 obtain⟨_,A',c',hv,h1,h2,h3⟩:=h;injection hv with e1 e2 e3;subst e1 e2 e3;refine⟨by simp,A.map fun x=>x.add k,c-k,by simp,by simp;omega,by omega,fun h0=>?_⟩;obtain⟨b,o,rfl,hc⟩:=h3 (by simp at h0;omega);refine⟨b,o+k,by simp[cV],fun j u hu=>?_⟩;have:=hc (k+j) u (by rw[List.map_drop,List.getElem?_drop]at hu;exact hu);rw[<-gW]at this;exact this
theorem aJ.nK{w:World}{A:Option Addr}{c2:Nat}(hc:c2<=maxLen):aJ w (.slice A 0 c2) []:=
 ⟨by simp,A,c2,rfl,by simp,hc,fun h0=>absurd h0 (by simp)⟩
def adx(bs:List UInt8)(many:Nat)(w:World)(n i:Value)(wr:World):Prop:=∃k:Nat,k<=many∧i=.int .i64 k∧n=.int .u64 (oW (bs.take k))∧w=wr
theorem tu(v:Value)(bs:List UInt8)(many:Nat)(w:World)(Fr:HL)(hb:aJ w v bs)(hH:Holds w Fr)(hm:many<=8)(hl:many<=bs.length)(kJ:bs.length<=100000):
  Calls Tryz.prog 159 #[v,.int .i64 many] w fun e w'=>∃v' H',e=.returned (.tuple #[.int .u64 (oW (bs.take many)),v',.bool true])∧ar v' (bs.drop many) H'∧Holds w' (H'++Fr)∧af w w':=by
 have HB:=aa hb;obtain⟨_,A,c,rfl,ff,gT,ha⟩:=hb;have HA:=aa ha;clear ha;go_enter func159,ntmps159;go_wp2_with fail
 go_loopw [7,26] (fun n i wr=>adx bs many w n i wr) (fun _ i _=>many-(intOf i).toNat)
 case atStart=>exact⟨0,by omega,rfl,rfl,rfl⟩
 case round=>
  obtain⟨k,hk,rfl,rfl,rfl⟩:=hrel;by_cases h1:k<many
  ·obtain⟨b,o,rfl,bm⟩:=HA.o (by omega);have Sx:k<bs.length:=by omega
   have vp:w.cell? ⟨b,o+k,none⟩=some (.int .u8 (bs[k].toNat:Int)):=bm k _ (by rw[dW,bF Sx];rfl);have Dt:bs[k].toNat<256:=bs[k].toNat_lt;have HT:=aa (show oW (bs.take (k+1))=oW (bs.take k)*256+bs[k].toNat by rw[gB Sx,yt]);obtain⟨LI,qH⟩:=tj (bs.take k);rw[dG,uc (by omega)]at qH;clear bm;generalize oW (bs.take k)=z at*;generalize bs[k].toNat=x at*;go_wp2_with fail
   go_roundw
   case rel=>
    refine⟨k+1,by omega,by go_num,?_,rfl⟩;rw[HT.o,YH LI (Int.lt_of_lt_of_le qH (QN (by omega))) Dt]
   case measure=>simp only[intOf];omega
  ·have qO:k=many:=by omega
   subst qO;have hd:=HB.o.drop hl;have HC:=aa (fun(v':Value) (hx:aJ w v' (bs.drop k))=>lf v' (bs.drop k) w Fr hx hH (by simp;omega));clear HA;go_wp2_with fail
   ·have hk3:bs.length-k=0:=by omega
    have Li:bs.drop k=[]:=jW (by simp;omega);have PH:=aJ.nK (w:=w) (A:=A) (c2:=0) (by simp[maxLen]);rw[Li]at HC;refine(HC.o _ (by rw[hk3];exact PH)).mono ?_;rintro e w2⟨v2,H2,rfl,fZ,aB,aX⟩;go_wp2_with fail
    go_ret3
    exact⟨v2,H2,rfl,by rw[Li];exact fZ,aB,aX⟩
   ·refine(HC.o _ hd).mono ?_;rintro e w2⟨v2,H2,rfl,fZ,aB,aX⟩;go_wp2_with fail
    go_ret3
    exact⟨v2,H2,rfl,fZ,aB,aX⟩
def UJ(r:Int):Int:=if bits BinOp.and IntKind.u32 r 1=1 then bits BinOp.xor IntKind.u32 (r/2) 2197175160 else r/2
def x8:Nat->Int->Int
 |0,r=>r
 |n+1,r=>UJ (x8 n r)
def Gx(r:Int)(x:UInt8):Int:=x8 8 (bits BinOp.xor IntKind.u32 r (x.toNat:Int))
def pT(r:Int)(bs:List UInt8):Int:=bs.foldl Gx r
theorem KG(r:Int)(bs:List UInt8)(x:UInt8):pT r (bs++[x])=Gx (pT r bs) x:=by unfold pT;rw[List.foldl_append];rfl
def anb(r:Int)(bs:List UInt8)(w:World)(rv i:Value)(wr:World):Prop:=∃k:Nat,k<=bs.length∧i=.int .i64 k∧rv=.int .u32 (pT r (bs.take k))∧w=wr
def ai1(r:Int)(w:World)(rv i:Value)(wr:World):Prop:=∃k:Nat,k<=8∧i=.int .i64 k∧rv=.int .u32 (x8 k r)∧w=wr
theorem MU(v:Value)(bs:List UInt8)(r:Int)(w:World)(hb:aJ w v bs):
  Calls Tryz.prog 191 #[.int .u32 r,v] w fun e w'=>e=.returned (.int .u32 (pT r bs))∧w=w':=by
 obtain⟨_,A,c,rfl,ff,gT,ha⟩:=hb;unfold maxLen at gT;have HA:=aa ha;clear ha;go_enter func191,ntmps191;go_wp2_with fail
 go_loopw [0,10] (fun rv i wr=>anb r bs w rv i wr) (fun _ i _=>bs.length-(intOf i).toNat)
 case atStart=>exact⟨0,by omega,rfl,rfl,rfl⟩
 case round=>
  obtain⟨k,hk,rfl,rfl,rfl⟩:=hrel;by_cases h1:k<bs.length
  ·obtain⟨b,o,rfl,bm⟩:=HA.o (by omega);have vp:w.cell? ⟨b,o+k,none⟩=some (.int .u8 (bs[k].toNat:Int)):=bm k _ (by rw[dW,bF h1];rfl);have Dt:bs[k].toNat<256:=bs[k].toNat_lt;have HT:=aa (show pT r (bs.take (k+1))=Gx (pT r (bs.take k)) bs[k] by rw[gB h1,KG]);clear bm;unfold Gx at HT;generalize pT r (bs.take k)=z at*;generalize bs[k].toNat=x at*;go_wp2_with fail
   go_loopw [0,18] (fun rv i wr=>ai1 (bits BinOp.xor IntKind.u32 z (x:Int)) w rv i wr) (fun _ i _=>8-(intOf i).toNat)
   case atStart=>exact⟨0,by omega,rfl,rfl,rfl⟩
   case round=>
    obtain⟨j,hj,rfl,rfl,rfl⟩:=hrel;by_cases h2:j<8
    ·have HS:=aa (show x8 (j+1) (bits BinOp.xor IntKind.u32 z (x:Int))=UJ (x8 j (bits BinOp.xor IntKind.u32 z (x:Int)))from rfl);generalize x8 j (bits BinOp.xor IntKind.u32 z (x:Int))=y at*;unfold UJ at HS;cases L9:(bits BinOp.and IntKind.u32 y 1==1)with
     |true=>
      have HB:=aa (by simpa using L9:bits BinOp.and IntKind.u32 y 1=1);go_wp2_with fail
      go_roundw
      case rel=>exact⟨j+1,by omega,by go_num,by rw[HS.o,if_pos HB.o],rfl⟩
      case measure=>simp only[intOf];omega
     |false=>
      have HB:=aa (by simpa using L9:¬bits BinOp.and IntKind.u32 y 1=1);go_wp2_with fail
      go_roundw
      case rel=>exact⟨j+1,by omega,by go_num,by rw[HS.o,if_neg HB.o],rfl⟩
      case measure=>simp only[intOf];omega
    ·have hj2:j=8:=by omega
     subst hj2;rw[<-HT.o];go_wp2_with fail
     go_roundw
     case rel=>exact⟨k+1,by omega,by go_num,rfl,rfl⟩
     case measure=>simp only[intOf];omega
  ·have qO:k=bs.length:=by omega
   subst qO;rw[fB];go_wp2_with fail
   go_ret;exact⟨rfl,rfl⟩
def zU(bs:List UInt8):Int:=bits BinOp.xor IntKind.u32 IntKind.u32.max (pT 4294967295 bs)
theorem KH(n:Int):0<=IntKind.u32.wrap n∧IntKind.u32.wrap n<4294967296:=by
 simp only[IntKind.wrap,IntKind.bits,IntKind.signed];simp;omega
theorem YI(A:Option Addr)(v:Value)(bs:List UInt8)(w:World)(b:Nat)(hA:A=some ⟨b,0,none⟩)(hc:w.cell? ⟨b,0,none⟩=some v)(hb:aJ w v bs):
  Calls Tryz.prog 134 #[.slice A 1 1] w fun e w'=>e=.returned (.int .u32 (zU bs))∧w=w':=by
 subst hA;have HS:=aa (MU v bs 4294967295 w hb);generalize hz:pT 4294967295 bs=z at*;have HZ:=aa hz;clear hz hb;go_enter func134,ntmps134;go_wp2_with fail
 go_loopw [3,8] (fun rv i wr=>(rv=.int .u32 4294967295∧i=.int .i64 0∧w=wr)∨(rv=.int .u32 z∧i=.int .i64 1∧w=wr)) (fun _ i _=>1-(intOf i).toNat)
 case atStart=>exact .inl ⟨rfl,rfl,rfl⟩
 case round=>
  rcases hrel with⟨rfl,rfl,rfl⟩|⟨rfl,rfl,rfl⟩
  ·go_wp2_with fail
   refine HS.o.mono ?_;rintro e w1⟨rfl,rfl⟩;go_wp2_with fail
   go_roundw
   case rel=>exact .inr ⟨rfl,rfl,trivial⟩
   case measure=>simp[intOf]
  ·go_wp2_with fail
   go_ret;rw[show zU bs=bits BinOp.xor IntKind.u32 IntKind.u32.max z by unfold zU;rw[HZ.o]];exact⟨rfl,rfl⟩
theorem O6(bs:List UInt8):0<=zU bs∧zU bs<4294967296:=by
 unfold zU;exact KH _
structure az where
 addr:Int
 aW:Int
 bR:Bool
 seq:Int
deriving DecidableEq,Inhabited
def az.cells(e:az):List Value:=[.int .u64 e.addr,.int .i64 e.aW,.bool e.bR,.int .i64 e.seq]
def az.agg(e:az):Value:=.agg #[.int .u64 e.addr,.int .i64 e.aW,.bool e.bR,.int .i64 e.seq]
def az.zero:az:=⟨0,0,false,0⟩
theorem ix:rP Tryz.prog 42 24 4 32 (.agg #[.int .u64 0,.int .i64 0,.bool false,.int .i64 0]):=rP.mk' (by kernel_rfl) (by kernel_rfl) (by rfl) (by decide)
def cQ(es:List az):List Value:=es.flatMap az.cells
theorem eu(es:List az):(cQ es).length=es.length*4:=by
 unfold cQ
 induction es with
 |nil=>rfl
 |cons r rs ih=>rw[List.flatMap_cons,aY,ih];simp[az.cells];omega
theorem gH{es:List az}:∀x∈cQ es,x.oneCell'=true:=by
 intro x hx;obtain⟨r,_,hr⟩:=List.mem_flatMap.1 hx;simp only[az.cells,l6,rL,or_false]at hr;rcases hr with rfl|rfl|rfl|rfl<;>rfl
theorem eM(a b:List az):cQ (a++b)=cQ a++cQ b:=by simp[cQ]
theorem wK:∀(es:List az) (i:Nat) (h:i<es.length),(cQ es)[i*4]?=some (.int .u64 es[i].addr)∧(cQ es)[i*4+1]?=some (.int .i64 es[i].aW)∧(cQ es)[i*4+2]?=some (.bool es[i].bR)∧(cQ es)[i*4+3]?=some (.int .i64 es[i].seq)
 |r::rs,0,_=>by simp[cQ,az.cells]
 |r::rs,i+1,h=>by
  have ih:=wK rs i (by simpa using h);unfold cQ at*;rw[List.flatMap_cons,show(i+1)*4=(i*4)+1+1+1+1 by omega];simpa[az.cells]using ih
def aP(v:Value)(es:List az)(H:HL):Prop:=au 24 4 v es.length (cQ es) H
def eC(w:World)(v:Value)(es:List az):Prop:=ag w 4 v es.length (cQ es)
theorem aP.nil:aP (.slice none 0 0) [] []:=au.nil _ _
theorem aP.at_{v:Value}{es:List az}{H Fr:HL}{w:World}(h:aP v es H)(hH:Holds w (H++Fr)):eC w v es:=au.reads h hH
theorem aP.val{v:Value}{es:List az}{H:HL}(h:aP v es H):∃A c,v=.slice A es.length c:=au.val h
theorem eC.val{v:Value}{es:List az}{w:World}(h:eC w v es):∃A c,v=.slice A es.length c:=by obtain⟨_,A,c,hv,_⟩:=h;exact⟨A,c,hv⟩
theorem eC.keep{w w':World}{v:Value}{es:List az}(h:eC w v es)(hk:∀p u,w.cell? p=some u->w'.cell? p=some u):eC w' v es:=ag.keep h hk
def wM(w:World)(b o:Nat)(e:az):Prop:=w.cell? ⟨b,o,none⟩=some (.int .u64 e.addr)∧w.cell? ⟨b,o+1,none⟩=some (.int .i64 e.aW)∧w.cell? ⟨b,o+2,none⟩=some (.bool e.bR)∧w.cell? ⟨b,o+3,none⟩=some (.int .i64 e.seq)
theorem eC.cells{w:World}{v:Value}{es:List az}(h:eC w v es):∃A c,v=.slice A es.length c∧es.length<=c∧c<=maxLen∧(0<es.length->∃b o,A=some ⟨b,o,none⟩∧∀i (hi:i<es.length),wM w b (o+i*4) es[i]):=by
 obtain⟨_,A,c,rfl,h1,h2,h3⟩:=h;refine⟨A,c,rfl,h1,h2,fun h0=>?_⟩;obtain⟨b,o,rfl,hc⟩:=h3 h0;refine⟨b,o,rfl,fun i hi=>?_⟩;obtain⟨e1,e2,e3,e4⟩:=wK es i hi;exact⟨hc _ _ e1,by rw[gW];exact hc _ _ e2,by rw[gW];exact hc _ _ e3,by rw[gW];exact hc _ _ e4⟩
theorem adN(x0 y0 x1 y1:Int)(x2 y2:Bool)(x3 y3:Int)(b:Bool)(h:(!decide (x0=y0∧x1=y1∧x2=y2∧x3=y3))=b)(wx:World):
  (if x0=y0 then if x1=y1 then if x2=y2 then if x3=y3 then Result.ok (Next.value (Value.bool false)) wx else Result.ok (Next.value (Value.bool true)) wx else Result.ok (Next.value (Value.bool true)) wx else Result.ok (Next.value (Value.bool true)) wx else Result.ok (Next.value (Value.bool true)) wx)=Result.ok (Next.value (.bool b)) wx:=by
 subst h;by_cases e0:x0=y0<;>by_cases e1:x1=y1<;>by_cases e2:x2=y2<;>by_cases e3:x3=y3<;>simp[e0,e1,e2,e3]
def VN(xs ys:List az)(w:World)(v:Value)(wr:World):Prop:=∃k m:Nat,k<=xs.length∧v=.int .i64 k∧xs.take k=ys.take k∧wr=w.drewN m
theorem rr(va vb:Value)(xs ys:List az)(w:World)(ha:eC w va xs)(hb:eC w vb ys):
  Calls Tryz.prog 17 #[va,vb] w (zQ w (.bool (decide (xs=ys)))):=by
 have hna:=ag.le ha;have WA:=ag.le hb;unfold maxLen at hna WA;obtain⟨A,ca,rfl,_,_,ha⟩:=ha.cells;obtain⟨B,cb,rfl,_,_,hb⟩:=hb.cells;have Ha:=aa ha;have Hb:=aa hb;clear ha hb;by_cases hl:xs.length=ys.length
 ·have DF:((xs.length:Int)!=(ys.length:Int))=false:=by rw[hl];simp
  have iY:(xs.length !=ys.length)=false:=by rw[hl];simp
  have HL:=aa hl;clear hl;go_enter func17,ntmps17;go_wp2
  go_loopw [5] (fun v wr=>VN xs ys w v wr) (fun v _=>xs.length-(intOf v).toNat)
  case atStart=>exact⟨0,0,by omega,rfl,by simp,rfl⟩
  case round=>
   obtain⟨k,m,hk,rfl,hrel,rfl⟩:=hrel;have HR:=aa hrel;clear hrel;by_cases aG:k<xs.length
   ·have mQ:k<ys.length:=by have:=HL.o;omega
    obtain⟨b1,o1,rfl,h1⟩:=Ha.o (by omega);obtain⟨b2,o2,rfl,h2⟩:=Hb.o (by omega);obtain⟨c0,c1,c2,c3⟩:=h1 k aG;obtain⟨d0,d1,d2,d3⟩:=h2 k mQ;have HT1:=aa (gB aG);have WJ:=aa (gB mQ);clear h1 h2;generalize xs[k]=x at*;generalize ys[k]=y at*;obtain⟨x0,x1,x2,x3⟩:=x;obtain⟨y0,y1,y2,y3⟩:=y;simp only at c0 c1 c2 c3 d0 d1 d2 d3;by_cases hx:(⟨x0,x1,x2,x3⟩:az)=⟨y0,y1,y2,y3⟩
    ·have HB:Zh ((!decide (x0=y0∧x1=y1∧x2=y2∧x3=y3))=false):=aa (by simp only[az.mk.injEq]at hx;rw[decide_eq_true hx];rfl);have HX:=aa hx;clear hx;go_upto_region 6 with fail
     refine aF (fun wx=>wx.cell? ⟨b1,o1+k*4,none⟩=some (.int .u64 x0)∧wx.cell? ⟨b1,o1+k*4+1,none⟩=some (.int .i64 x1)∧wx.cell? ⟨b1,o1+k*4+2,none⟩=some (.bool x2)∧wx.cell? ⟨b1,o1+k*4+3,none⟩=some (.int .i64 x3)∧wx.cell? ⟨b2,o2+k*4,none⟩=some (.int .u64 y0)∧wx.cell? ⟨b2,o2+k*4+1,none⟩=some (.int .i64 y1)∧wx.cell? ⟨b2,o2+k*4+2,none⟩=some (.bool y2)∧wx.cell? ⟨b2,o2+k*4+3,none⟩=some (.int .i64 y3)) 9 (by kernel_rfl) (fun w1 hd=>by obtain⟨q,rfl⟩:=hd;exact⟨c0,c1,c2,c3,d0,d1,d2,d3⟩) (fun w1 hd hs=>?_);obtain⟨nq,rfl⟩:=hd;refine dY 0 1 2 3 ?_;refine dY 4 5 6 7 ?_;refine Zt 8 25 (.bool false) rfl hs ?_ ?_
     ·intro wx hx;obtain⟨s0,s1,s2,s3,s4,s5,s6,s7⟩:=hx;go_simp;exact adN x0 y0 x1 y1 x2 y2 x3 y3 false HB.o wx
     simp only[pt,sA,sS,sZ];refine Ze ?_;go_wp2_with fail
     go_roundw
     case rel=>exact⟨k+1,m+nq,by omega,by go_num,by rw[HT1.o,WJ.o,HR.o,HX.o],by first|rfl|exact MA _ _ _⟩
     case measure=>simp[intOf];omega
    ·have HB:Zh ((!decide (x0=y0∧x1=y1∧x2=y2∧x3=y3))=true):=aa (by simp only[az.mk.injEq]at hx;rw[decide_eq_false hx];rfl);have HX:=aa hx;clear hx;go_upto_region 6 with fail
     refine aF (fun wx=>wx.cell? ⟨b1,o1+k*4,none⟩=some (.int .u64 x0)∧wx.cell? ⟨b1,o1+k*4+1,none⟩=some (.int .i64 x1)∧wx.cell? ⟨b1,o1+k*4+2,none⟩=some (.bool x2)∧wx.cell? ⟨b1,o1+k*4+3,none⟩=some (.int .i64 x3)∧wx.cell? ⟨b2,o2+k*4,none⟩=some (.int .u64 y0)∧wx.cell? ⟨b2,o2+k*4+1,none⟩=some (.int .i64 y1)∧wx.cell? ⟨b2,o2+k*4+2,none⟩=some (.bool y2)∧wx.cell? ⟨b2,o2+k*4+3,none⟩=some (.int .i64 y3)) 9 (by kernel_rfl) (fun w1 hd=>by obtain⟨q,rfl⟩:=hd;exact⟨c0,c1,c2,c3,d0,d1,d2,d3⟩) (fun w1 hd hs=>?_);obtain⟨nq,rfl⟩:=hd;refine dY 0 1 2 3 ?_;refine dY 4 5 6 7 ?_;refine Zt 8 25 (.bool true) rfl hs ?_ ?_
     ·intro wx hx;obtain⟨s0,s1,s2,s3,s4,s5,s6,s7⟩:=hx;go_simp;intro a b c d;exact HX.o (by rw[a,b,c,d])
     simp only[pt,sA,sS,sZ];refine Ze ?_;go_wp2_with fail
     go_ret;refine⟨ue (b:=false) (decide_eq_false fun e=>?_).symm,m+nq,by first|rfl|exact MA _ _ _⟩;subst e;have h1:=HT1.o;rw[WJ.o,List.append_cancel_left_eq]at h1;injection h1 with h1 _;exact HX.o h1.symm
   ·go_wp2
    go_ret;have h1:=HR.o;have:=HL.o;rw[gU (by omega),gU (by omega)]at h1;exact⟨ue (b:=true) (decide_eq_true h1).symm,m,rfl⟩
 ·have DF:((xs.length:Int)!=(ys.length:Int))=true:=by simp;omega
  have iY:(xs.length !=ys.length)=true:=by simpa using hl
  go_enter func17,ntmps17;go_wp2
  go_ret;exact⟨ue (b:=false) (decide_eq_false fun e=>by subst e;exact hl rfl).symm,0,rfl⟩
def VO(v:Value)(n:Nat)(w:World)(Fr:HL)(i:Value)(wr:World):Prop:=
 ∃(k:Nat) (es:List az) (H:HL),k<=n∧i=.int .i64 k∧es.length=n∧aP v es H∧Holds wr (H++Fr)∧af w wr
theorem aP.store{v:Value}{es:List az}{H Fr:HL}{w:World}(h:aP v es H)(hH:Holds w (H++Fr)){j:Nat}(hj:j<es.length):
  ∃g cap,v=.slice (some ⟨g,0,none⟩) es.length cap∧es.length<=cap∧cap<=maxLen∧wM w g (j*4) es[j]∧(∀q,q<4->w.frozen? ⟨g,j*4+q,none⟩=false)∧g<w.heap.size∧
   ∀(w':World) (N9:HL),Holds w' (H++N9)->∀e:az,∃H',aP v (es.set j e) H'∧Holds ((((w'.setCell ⟨g,j*4,none⟩ (.int .u64 e.addr)).setCell ⟨g,j*4+1,none⟩ (.int .i64 e.aW)).setCell ⟨g,j*4+2,none⟩ (.bool e.bR)).setCell ⟨g,j*4+3,none⟩ (.int .i64 e.seq)) (H'++N9):=by
 obtain⟨hl,h2⟩:=h;rcases h2 with⟨rfl,h0,rfl⟩|⟨g,cap,cur,fz,rfl,hn,hc,hs,ht,hf,rfl⟩
 ·omega
 ·have hg:w.heap[g]?=some (.cells cur 24 fz):=hH.get (by simp);have hjc:j*4+3<cur.size:=by omega
  have AV:∀q u,(cQ es)[j*4+q]?=some u->q<4->w.cell? ⟨g,j*4+q,none⟩=some u:=fun q u hu hq=>by
   rw[cell_of_row w g (j*4+q) cur 24 fz hg];rw[<-ht,lE,if_pos (by omega)]at hu;simpa using hu
  obtain⟨e1,e2,e3,e4⟩:=wK es j hj;refine⟨g,cap,rfl,hn,hc,⟨AV 0 _ e1 (by omega),AV 1 _ e2 (by omega),AV 2 _ e3 (by omega),AV 3 _ e4 (by omega)⟩,fun q hq=>eO hg hf (by omega),hH.lt (p:=(g,.cells cur 24 fz)) (by simp),fun w' N9 h' e=>?_⟩;have k1:=Holds.ej (H:=N9) (by simpa using h') (j*4) (.int .u64 e.addr);have k2:=Holds.ej k1 (j*4+1) (.int .i64 e.aW);have k3:=Holds.ej k2 (j*4+2) (.bool e.bR);have k4:=Holds.ej k3 (j*4+3) (.int .i64 e.seq);refine⟨_,⟨by rw[eu],.inr ⟨g,cap,_,fz,by rw[k5],by rw[k5];exact hn,hc,by simpa using hs,?_,by simpa using hf,rfl⟩⟩,k4⟩;rw[k5];simp only[Array.toList_setIfInBounds,List.take_set,ht];have bz:∀(es:List az) (j:Nat),j<es.length->((((cQ es).set (j*4) (.int .u64 e.addr)).set (j*4+1) (.int .i64 e.aW)).set (j*4+2) (.bool e.bR)).set (j*4+3) (.int .i64 e.seq)=cQ (es.set j e):=by
   intro es
   induction es with
   |nil=>intro j hj;simp at hj
   |cons r rs ih=>
    intro j hj
    match j with
    |0=>simp[cQ,az.cells]
    |j+1=>
     have:=ih j (by simpa using hj);unfold cQ at*;rw[show(j+1)*4=j*4+1+1+1+1 by omega];simp only[List.flatMap_cons,az.cells,tZ,jS,List.set_cons_succ,show j*4+1+1+1+1+1=(j*4+1)+1+1+1+1 by omega,show j*4+1+1+1+1+2=(j*4+2)+1+1+1+1 by omega,show j*4+1+1+1+1+3=(j*4+3)+1+1+1+1 by omega,this]
  exact bz es j hj
theorem Nd(v:Value)(es:List az)(H Fr:HL)(w:World)(hb:aP v es H)(hH:Holds w (H++Fr))(kJ:es.length<=1000000):
  Calls Tryz.prog 35 #[v] w (cM (.tuple #[]) w Fr):=by
 obtain⟨A,c,rfl⟩:=hb.val;have HB:=aa hb;clear hb;obtain⟨n,hn⟩:∃n,es.length=n:=⟨_,rfl⟩;rw[hn]at HB⊢;have HN:=aa hn;have aci:n<=1000000:=by omega
 clear hn kJ;go_enter func35,ntmps35;go_wp2_with fail
 go_loopw [2] (fun i wr=>VO (.slice A n c) n w Fr i wr) (fun i _=>n-(intOf i).toNat)
 case atStart=>exact⟨0,es,H,by omega,rfl,HN.o,HB.o,hH,af.refl w⟩
 case round=>
  obtain⟨k,zs,H2,hk,rfl,qH,hz,aB,hg⟩:=hrel;have HZ:=aa hz;have ZF:=aa qH;by_cases aG:k<n
  ·obtain⟨g,cap,hv,PC,nO,⟨c0,c1,c2,c3⟩,tM,SB,bz⟩:=hz.store aB (j:=k) (by omega);have f0:=tM 0 (by omega);have f1:=tM 1 (by omega);have f2:=tM 2 (by omega);have f3:=tM 3 (by omega);have HS:=aa bz;injection hv with gM mg kS;subst gM;subst kS;rw[fD]at f0;generalize zs[k]'(by have:=ZF.o;omega)=z at*;clear bz tM hz qH mg;obtain⟨z0,z1,z2,z3⟩:=z;simp only at c0 c1 c2 c3;go_wp2_with fail
   obtain⟨H3,h3,hh3⟩:=HS.o wr Fr aB ⟨0,-9,false,0⟩;exact⟨⟨k+1,_,H3,by omega,by go_num,by rw[k5];exact ZF.o,h3,hh3,(((hg.setCell _ _).setCell _ _).setCell _ _).setCell _ _⟩,by simp[intOf];omega⟩
  ·clear hz qH;have HR:Zh (au 24 4 (.slice A n c) n (cQ zs) H2):=aa (by have h:=HZ.o;unfold aP at h;rw[ZF.o]at h;exact h);go_wp2_with (at_builtin;refine al ix (by rfl) (.tmp 13) (.tmp 15) (by rfl) (by rfl) (by rfl) HR.o (aB.bP _) (ag.many (w:=wr) (n:=1) (size:=4) (cs:=#[.int .u64 0,.int .i64 (-9),.bool false,.int .i64 0]) (by rfl) (by simp[maxLen])) (by simp[Value.oneCell']) (by simp[maxLen];omega) (by omega) ?_;intro A' c' w' H' ay aD bj)
   go_end0
   exact⟨rfl,aD.right,(hg.alloc _).trans bj⟩
def Nf:Go.Shelf.Ren:=⟨fun|6=>188|n=>n,fun|22=>42|23=>24|25=>255|3=>3|0=>0|4=>4|n=>n,fun|n=>n⟩
theorem adO:Go.Proofs.SlLaysH0.n6 Tryz.prog Nf where
 mixed:=by kernel_rfl
 f6:=⟨ "slices.IndexFunc[[]scullery/api.Entry,scullery/api.Entry]",by decide,func188.trans (congrArg some (by kernel_rfl))⟩
 t0:=Tryz.underlying0
 a0:=Tryz.isAgg0
 z0:=Tryz.sizeOf0
 v0:=Tryz.zeroValue0
 t3:=Tryz.underlying3
 a3:=Tryz.isAgg3
 z3:=Tryz.sizeOf3
 v3:=Tryz.zeroValue3
 t4:=Tryz.underlying4
 a4:=Tryz.isAgg4
 z4:=Tryz.sizeOf4
 v4:=Tryz.zeroValue4
 t22:=Tryz.underlying42
 a22:=Tryz.isAgg42
 z22:=Tryz.sizeOf42
 v22:=Tryz.zeroValue42
 t25:=Tryz.underlying255
 a25:=Tryz.isAgg255
 z25:=Tryz.sizeOf255
 v25:=Tryz.zeroValue255
theorem VP(e:az)(a:Int)(b:Nat)(W:World)(hb:W.cell? ⟨b,0,none⟩=some (.int .u64 a)):Calls Tryz.prog 189 #[.agg e.cells.toArray,.pointer (some ⟨b,0,none⟩)] W fun en w'=>en=.returned (.bool (e.addr==a))∧w'=W.alloc (.cells e.cells.toArray 24):=by
 obtain⟨e0,e1,e2,e3⟩:=e;have aG:=World.block_lt_of_cell? W _ hb;have ei:b≠W.heap.size:=by simp only at aG;omega
 have fZ:(W.alloc (.cells #[.int .u64 e0,.int .i64 e1,.bool e2,.int .i64 e3] 24)).cell? ⟨b,0,none⟩=some (.int .u64 a):=by rw[World.cell?_alloc_lt W _ _ aG];exact hb
 simp only[az.cells];go_enter func189,ntmps189;go_wp2_with fail
 go_ret;exact⟨rfl,rfl⟩
def atI(a:Int)(es:List az):Int:=Lib.idxBy (fun _ y:az=>y.addr==a) es default
def adP(w:World)(v:Value)(wr:World):Prop:=v=.int .i64 0∧wr=w
theorem KR(A:Option Addr)(c:Nat)(fv:Value)(w:World)(Fr:HL)(hH:Holds w Fr):Calls Tryz.prog 188 #[.slice A 0 c,fv] w (cM (.int .i64 (-1)) w Fr):=by
 go_enter func188,ntmps188;go_wp2_with fail
 go_loopw [8] (fun v wr=>adP w v wr) (fun _ _=>0)
 case atStart=>exact⟨rfl,rfl⟩
 case round=>
  obtain⟨rfl,rfl⟩:=hrel;go_wp2_with fail
  go_ret;exact⟨rfl,hH,af.refl _⟩
theorem Ch(v:Value)(es:List az)(a:Int)(w:World)(Fr:HL)(hv:∀wx,Holds wx Fr->eC wx v es)(hH:Holds w Fr)(kJ:es.length<=1000000):
  Calls Tryz.prog 124 #[v,.int .u64 a] w (cM (.int .i64 (atI a es)) w Fr):=by
 have fU:=hH.alloc (.cells #[.int .u64 a] 22);have hEA:=hv _ fU.tail;obtain⟨A,c,Oz,ff,gT,bm⟩:=hEA.cells;subst Oz;have HX:Zh (∀w1,w1=w.alloc (.cells #[.int .u64 a] 22)->Calls Tryz.prog 188 #[.slice A es.length c,.func (.func 189) #[] #[.pointer (some ⟨w.heap.size,0,none⟩)]] w1 (cM (.int .i64 (atI a es)) w1 Fr)):=aa (by
  intro w1 u7;rw[<-u7]at fU bm;rcases nG es.length with h0|h0
  ·obtain rfl:es=[]:=List.length_eq_zero_iff.1 h0;exact KR A c _ w1 Fr fU.tail
  ·obtain⟨b,o,rfl,AV⟩:=bm h0;have hcb:=AV 0 h0;rw[Nat.zero_mul,fD]at hcb;have jq:b<w1.heap.size:=World.block_lt_of_cell? w1 _ hcb.1;have eg:∀args w,(callFunc 189 args).run Tryz.prog w=.ok (.enter 189 args) w:=enters_of func189 (by kernel_rfl) rfl;have T8:=AnyQ.slices_IndexFunc adO 4 Tryz.isAgg24 Tryz.sizeOf24 az.cells (fun _=>rfl) (fun y:az=>y.addr==a) 189 #[.pointer (some ⟨w.heap.size,0,none⟩)] eg b o es.length c es w1
    (fun W x hb=>by
     have hcw:W.cell? ⟨w.heap.size,0,none⟩=some (.int .u64 a):=by
      rw[hb.cell (p:=⟨w.heap.size,0,none⟩) (fU.aG)];exact(fU.ae 0).trans (by simp)
     refine(VP x a w.heap.size W hcw).mono ?_;rintro e w'⟨rfl,rfl⟩;refine⟨rfl,hb.os,hb.tape,hb.output,by have:=hb.size;simp;omega,fun k hk=>?_⟩;rw[<-hb.block k hk];exact Below.heap_alloc W _ k (by have:=hb.size;omega))
    (aN _) (by omega) jq
    (fun j hj i u hu=>by
     obtain⟨e1,e2,e3,e4⟩:=AV j hj;have hx:es[j]! =es[j]:=getElem!_pos es j hj;rw[hx]at hu
     match i,hu with
     |0,hu=>simp only[az.cells,iK,Option.some.injEq]at hu;subst hu;exact e1
     |1,hu=>simp only[az.cells,mS,iK,Option.some.injEq]at hu;subst hu;exact e2
     |2,hu=>simp only[az.cells,mS,iK,Option.some.injEq]at hu;subst hu;exact e3
     |3,hu=>simp only[az.cells,mS,iK,Option.some.injEq]at hu;subst hu;exact e4
     |k+4,hu=>simp[az.cells]at hu)
   refine Calls.mono T8 ?_;rintro e w'⟨rfl,hb⟩;rw[fB];refine⟨rfl,fU.tail.below hb (fun p hp=>fU.tail.lt hp),hb.os,hb.tape,hb.output,hb.size⟩)
 clear bm fU;go_enter func124,ntmps124;go_wp2_with fail
 refine(HX.o _ rfl).mono ?_;rintro e w'⟨rfl,aB,aX⟩;go_wp2_with fail
 go_ret;exact⟨rfl,aB,((af.refl w).alloc _).trans aX⟩
def Vj(w:World)(size:Nat)(v:Value)(l:List (Nat×List Value)):Prop:=
 ∃Lx:List Value,ag w 1 v l.length Lx∧Lx.length=l.length∧∀(i:Nat) (e:Value) (x:Nat×List Value),Lx[i]?=some e->l[i]?=some x->ag w size e x.1 x.2
def adQ(Fr:HL)(size:Nat)(v:Value)(l:List (Nat×List Value)):Prop:=∀w,Holds w Fr->Vj w size v l
def mj(l:List (Nat×List Value)):Nat:=(l.map (·.1)).sum
def xR(l:List (Nat×List Value)):List Value:=(l.map (·.2)).flatten
theorem Rj(l:List (Nat×List Value))(k:Nat):mj (l.take k)<=mj l:=by
 have h:mj l=mj (l.take k)+mj (l.drop k):=by
  unfold mj;rw[<-List.sum_append,<-dm,oz]
 omega
theorem Fg(l:List (Nat×List Value))(k:Nat)(h:k<l.length):mj (l.take (k+1))=mj (l.take k)+l[k].1:=by
 unfold mj;rw[gB h,dm,List.sum_append];simp
theorem Rk(l:List (Nat×List Value))(k:Nat)(h:k<l.length):xR (l.take (k+1))=xR (l.take k)++l[k].2:=by
 unfold xR;rw[gB h,dm,qe];simp
theorem VQ(l:List (Nat×List Value))(k:Nat)(h:k<l.length){x:Value}(hx:x∈l[k].2):x∈xR l:=by
 unfold xR;exact List.mem_flatten.2 ⟨l[k].2,List.mem_map.2 ⟨l[k],cX h,rfl⟩,hx⟩
theorem tR{P:Program}{w:World}{e t tn:TypeId}{size bytes:Nat}{z:Value}{Fr:HL}{kn:IntKind}{ops:Array Oper}{rest:List Oper}{o:Oper}{a:Act}{Q:Exit->Act->World->Prop}(hT:rP P t e size bytes z)(nj:o.guard=none)(s x:Operand)
  (htn:P.underlying tn=some (.int kn))(ho:o.op=.call {callee:=.builtin .append,args:=#[s,x],argTypes:=#[t,tn]})
  (hs:a.eval s=.slice none 0 0){m:Nat}(hx:a.eval x=.int .i64 m)(h0:0<m)(hm:m<=maxLen)(hb:m*bytes<=140737488355328)(hH:Holds w Fr)
  (h:∀cap cs w',m<=cap->cap<=maxLen->cap*size<=cs.size->Holds w' ((w.heap.size,.cells cs e)::Fr)->af w w'->wpList P ops Q rest (a.put o.dst (.slice (some ⟨w.heap.size,0,none⟩) m cap)) w'):wpList P ops Q (o::rest) a w:=by
 obtain⟨i,hi,hz,fT,xr⟩:=hT.info;subst fT;subst xr;have hr:=Lib.run_append_nil_zeros (P:=P) w t tn o.type e i z .i64 kn hT.under htn hi hz m h0 hT.pos (by simp only[maxLen]at hm;omega) (by omega);refine Lib.wpList_append_run w nj s x t tn ho _ _ hs hx _ _ hr ?_;have hg:=Kz w m 0 e hm;refine h _ _ _ hg.1 hg.2 ?_ (hH.drew.alloc _) ((af.refl w).drew.alloc _);simp only[Array.size_append,size_zeroCells,hT.cells,<-nH];exact kY _ (by omega)
theorem Rl(m:Nat)(w:World)(Fr:HL)(hH:Holds w Fr)(hm:m<=1000000):
  Calls Tryz.prog 173 #[.slice none 0 0,.int .i64 m] w (cB (fun v H=>au 24 4 v 0 [] H) w Fr):=by
 by_cases h0:m=0
 ·subst h0;go_enter func173,ntmps173;go_wp2_with fail
  go_ret;exact⟨_,[],rfl,au.nil _ _,hH,af.refl w⟩
 ·have h0':0<m:=by omega
  have HH:=aa hH;clear hH h0;go_enter func173,ntmps173;go_wp2_with (at_builtin;refine tR (kn:=.i64) ix (by rfl) (.tmp 20) (.tmp 21) (by kernel_rfl) (by rfl) (by rfl) (by rfl) h0' (by simp[maxLen];omega) (by omega) HH.o ?_;intro cap cs w' ff gT mM ax aK)
  unfold maxLen at gT;go_ret;exact⟨_,_,rfl,⟨by simp,.inr ⟨_,cap,cs,_,rfl,by omega,by simp[maxLen];omega,mM,by simp,lb _,rfl⟩⟩,ax,aK⟩
def adR(l:List (Nat×List Value))(w:World)(sz i:Value)(wr:World):Prop:=∃k:Nat,k<=l.length∧i=.int .i64 k∧sz=.int .i64 (mj (l.take k):Nat)∧wr=w
def adS(l:List (Nat×List Value))(w:World)(Fr:HL)(nv i:Value)(wr:World):Prop:=
 ∃(k:Nat) (H:HL),k<=l.length∧i=.int .i64 k∧au 24 4 nv (mj (l.take k)) (xR (l.take k)) H∧Holds wr (H++Fr)∧af w wr
theorem VR(v:Value)(l:List (Nat×List Value))(w:World)(Fr:HL)(hv:adQ Fr 4 v l)(hH:Holds w Fr)(kJ:mj l<=1000000)(h1:∀x∈xR l,x.oneCell'=true):
  Calls Tryz.prog 108 #[v] w (cB (fun v' H'=>au 24 4 v' (mj l) (xR l) H') w Fr):=by
 have zK:=hv w hH;obtain⟨Lx,⟨_,A,c,rfl,ff,gT,ae⟩,Ay,cm⟩:=zK;have HV:=aa hv;have HH:=aa hH;have H1:=aa h1;have HCE:=aa ae;have jo:=aa cm;have HN:Zh (∀k,mj (l.take k)<=1000000):=aa fun k=>Nat.le_trans (Rj l k) kJ;have hle:l.length<=maxLen:=by omega
 unfold maxLen at hle gT;clear hv hH h1 ae cm;go_enter func108,ntmps108;go_wp2_with fail
 go_loopw [3,11] (fun sz i wr=>adR l w sz i wr) (fun _ i _=>l.length-(intOf i).toNat)
 case atStart=>exact⟨0,by omega,rfl,by simp[mj],rfl⟩
 case round=>
  obtain⟨k,hk,rfl,rfl,Ss⟩:=hrel;subst wr;by_cases aG:k<l.length
  ·obtain⟨b,o,rfl,bm⟩:=HCE.o (by omega);have c1:=bm k (Lx[k]'(by omega)) (bF (by omega));obtain⟨_,A2,c2,kK,_⟩:=jo.o k (Lx[k]'(by omega)) l[k] (bF (by omega)) (bF aG);rw[kK]at c1;clear bm kK;have e1:mj (l.take (k+1))=mj (l.take k)+l[k].1:=Fg l k aG;have b1:=HN.o k;have b2:=HN.o (k+1);generalize l[k].1=m at*;generalize mj (l.take k)=n at*;go_wp2_with fail
   exact⟨⟨k+1,by omega,by go_num,by rw[e1];go_num,rfl⟩,by simp[intOf];omega⟩
  ·have Dn:k=l.length:=by omega
   subst Dn;rw[gU (aN _)];have HG:=aa (Rl (mj l) w Fr HH.o kJ);generalize PN:mj l=n at kJ HG;have SC:=aa PN;clear PN;go_wp2_with fail
   refine HG.o.mono ?_;rintro e w1⟨v1,Hh1,rfl,h1,ax,aK⟩;have Xo:=aa h1;obtain⟨A1,c1,rfl⟩:=h1.val;clear h1 HG;go_wp2_with fail
   go_loopw [6,27] (fun nv i wr=>adS l w Fr nv i wr) (fun _ i _=>l.length-(intOf i).toNat)
   case atStart=>exact⟨0,Hh1,by omega,rfl,by simpa[mj,xR]using Xo.o,ax,aK⟩
   case round=>
    obtain⟨k,Hk,hk,rfl,hrk,LS,SI⟩:=hrel;have HRK:=aa hrk;obtain⟨Ak,ck,rfl⟩:=hrk.val;clear hrk;by_cases aG:k<l.length
    ·obtain⟨acj,⟨_,A2,c2,ajd,_,_,Gw⟩,Gi,Bs⟩:=HV.o wr (LS.right);injection ajd with Xx _ anD;subst Xx;subst anD;obtain⟨b,o,rfl,bm⟩:=Gw (by omega);have c1:=bm k (acj[k]'(by omega)) (bF (by omega));have Tu:=Bs k (acj[k]'(by omega)) l[k] (bF (by omega)) (bF aG);generalize acj[k]'(by omega)=ev at*;have pJ:=aa Tu;obtain⟨_,A3,c3,rfl,_⟩:=Tu;have e1:mj (l.take (k+1))=mj (l.take k)+l[k].1:=Fg l k aG;have e2:xR (l.take (k+1))=xR (l.take k)++l[k].2:=Rk l k aG;have HO:Zh (∀x∈l[k].2,x.oneCell'=true):=aa fun x hx=>H1.o x (VQ l k aG hx);have b1:=HN.o k;have b2:=HN.o (k+1);have E1:=aa e1;have E2:=aa e2;have hb:mj (l.take k)+l[k].1<=1000000:=by omega
     clear e1 e2 bm Gw Bs b1 b2;generalize l[k].1=m at*;generalize l[k].2=xs at*;generalize mj (l.take k)=n at*;go_wp2_with (at_builtin;refine al ix (by rfl) (.tmp 31) (.tmp 32) (by rfl) (by rfl) (by rfl) HRK.o LS pJ.o HO.o (by simp[maxLen];omega) (by omega) ?_;intro A' c' w' H' ay aD bj)
     exact⟨⟨k+1,H',by omega,by go_num,by rw[E1.o,E2.o];exact ay,aD,SI.trans bj⟩,by simp[intOf];omega⟩
    ·have Dn:k=l.length:=by omega
     subst Dn;rw[gU (aN _)]at HRK⊢;go_wp2_with fail
     go_ret;exact⟨_,Hk,rfl,by exact HRK.o,LS,SI⟩
def KT:Go.Shelf.Ren:=⟨fun|6=>109|15=>175|14=>174|28=>212|29=>213|20=>204|21=>205|22=>206|23=>207|24=>208|25=>209|26=>210|27=>211|46=>238|47=>239|48=>240|49=>241|50=>242|57=>255|n=>n,fun|22=>42|24=>24|25=>176|3=>3|39=>128|0=>0|53=>198|55=>22|4=>4|46=>271|45=>270|50=>275|5=>5|9=>9|66=>293|70=>296|76=>305|77=>228|n=>n,fun|n=>n⟩
theorem Ph:Go.Proofs.SlLaysF0.n6 Tryz.prog KT where
 mixed:=by kernel_rfl
 f6:=⟨ "slices.SortFunc[[]scullery/api.Entry,scullery/api.Entry]",by decide,func109.trans (congrArg some (by kernel_rfl))⟩
 f14:=⟨ "slices.pdqsortCmpFunc[scullery/api.Entry]",by decide,func174.trans (congrArg some (by kernel_rfl))⟩
 f15:=func175.trans (congrArg some (by kernel_rfl))
 f20:=⟨ "slices.insertionSortCmpFunc[scullery/api.Entry]",by decide,func204.trans (congrArg some (by kernel_rfl))⟩
 f21:=⟨ "slices.heapSortCmpFunc[scullery/api.Entry]",by decide,func205.trans (congrArg some (by kernel_rfl))⟩
 f22:=⟨ "slices.breakPatternsCmpFunc[scullery/api.Entry]",by decide,func206.trans (congrArg some (by kernel_rfl))⟩
 f23:=⟨ "slices.choosePivotCmpFunc[scullery/api.Entry]",by decide,func207.trans (congrArg some (by kernel_rfl))⟩
 f24:=⟨ "slices.reverseRangeCmpFunc[scullery/api.Entry]",by decide,func208.trans (congrArg some (by kernel_rfl))⟩
 f25:=⟨ "slices.partialInsertionSortCmpFunc[scullery/api.Entry]",by decide,func209.trans (congrArg some (by kernel_rfl))⟩
 f26:=⟨ "slices.partitionEqualCmpFunc[scullery/api.Entry]",by decide,func210.trans (congrArg some (by kernel_rfl))⟩
 f27:=⟨ "slices.partitionCmpFunc[scullery/api.Entry]",by decide,func211.trans (congrArg some (by kernel_rfl))⟩
 f28:=func212.trans (congrArg some (by kernel_rfl))
 f29:=func213.trans (congrArg some (by kernel_rfl))
 f46:=⟨ "slices.siftDownCmpFunc[scullery/api.Entry]",by decide,func238.trans (congrArg some (by kernel_rfl))⟩
 f47:=func239.trans (congrArg some (by kernel_rfl))
 f48:=func240.trans (congrArg some (by kernel_rfl))
 f49:=⟨ "slices.medianAdjacentCmpFunc[scullery/api.Entry]",by decide,func241.trans (congrArg some (by kernel_rfl))⟩
 f50:=⟨ "slices.medianCmpFunc[scullery/api.Entry]",by decide,func242.trans (congrArg some (by kernel_rfl))⟩
 f57:=⟨ "slices.order2CmpFunc[scullery/api.Entry]",by decide,func255.trans (congrArg some (by kernel_rfl))⟩
 t0:=Tryz.underlying0
 a0:=Tryz.isAgg0
 z0:=Tryz.sizeOf0
 v0:=Tryz.zeroValue0
 t3:=Tryz.underlying3
 a3:=Tryz.isAgg3
 z3:=Tryz.sizeOf3
 v3:=Tryz.zeroValue3
 t4:=Tryz.underlying4
 a4:=Tryz.isAgg4
 z4:=Tryz.sizeOf4
 v4:=Tryz.zeroValue4
 t5:=Tryz.underlying5
 a5:=Tryz.isAgg5
 z5:=Tryz.sizeOf5
 v5:=Tryz.zeroValue5
 t9:=Tryz.underlying9
 a9:=Tryz.isAgg9
 z9:=Tryz.sizeOf9
 v9:=Tryz.zeroValue9
 t22:=Tryz.underlying42
 a22:=Tryz.isAgg42
 z22:=Tryz.sizeOf42
 v22:=Tryz.zeroValue42
 t25:=Tryz.underlying176
 a25:=Tryz.isAgg176
 z25:=Tryz.sizeOf176
 v25:=Tryz.zeroValue176
 t39:=Tryz.underlying128
 a39:=Tryz.isAgg128
 z39:=Tryz.sizeOf128
 v39:=Tryz.zeroValue128
 t45:=Tryz.underlying270
 a45:=Tryz.isAgg270
 z45:=Tryz.sizeOf270
 v45:=Tryz.zeroValue270
 t46:=Tryz.underlying271
 a46:=Tryz.isAgg271
 z46:=Tryz.sizeOf271
 v46:=Tryz.zeroValue271
 t50:=Tryz.underlying275
 a50:=Tryz.isAgg275
 z50:=Tryz.sizeOf275
 v50:=Tryz.zeroValue275
 t53:=Tryz.underlying198
 a53:=Tryz.isAgg198
 z53:=Tryz.sizeOf198
 v53:=Tryz.zeroValue198
 t55:=Tryz.underlying22
 a55:=Tryz.isAgg22
 z55:=Tryz.sizeOf22
 v55:=Tryz.zeroValue22
 t66:=Tryz.underlying293
 a66:=Tryz.isAgg293
 z66:=Tryz.sizeOf293
 v66:=Tryz.zeroValue293
 t70:=Tryz.underlying296
 a70:=Tryz.isAgg296
 z70:=Tryz.sizeOf296
 v70:=Tryz.zeroValue296
 t76:=Tryz.underlying305
 a76:=Tryz.isAgg305
 z76:=Tryz.sizeOf305
 v76:=Tryz.zeroValue305
 t77:=Tryz.underlying228
 a77:=Tryz.isAgg228
 z77:=Tryz.sizeOf228
 v77:=Tryz.zeroValue228
section
variable{α:Type}[Inhabited α](enc:α->Value)
theorem ij(xs:Array α)(c:Array Value):(Go.Sort.putCells enc 0 xs c).size=c.size:=by unfold Go.Sort.putCells;simp
theorem oQ(xs:List α)(c:Array Value)(h:xs.length<=c.size):(Go.Sort.putCells enc 0 xs.toArray c).toList.take xs.length=xs.map enc:=by
 apply aaN
 ·simp[Go.Sort.putCells];omega
 ·intro i h1 h2;have hi:i<xs.length:=by simpa using h2
  simp[Go.Sort.putCells,hi]
theorem sP{w:World}{g:Nat}{cur:Array Value}{t:TypeId}{fz:Nat×Nat}{H:HL}(n:Nat)(os:Array Obj)(xs:Array α)(hH:Holds w ((g,.cells cur t fz)::H)):
  Holds (Go.Sort.grow (Go.Sort.putRow enc (Go.Sort.ahead w n) g 0 xs) os) ((g,.cells (Go.Sort.putCells enc 0 xs cur) t fz)::H)∧
   af w (Go.Sort.grow (Go.Sort.putRow enc (Go.Sort.ahead w n) g 0 xs) os):=by
 have aan:(Go.Sort.grow (Go.Sort.putRow enc (Go.Sort.ahead w n) g 0 xs) os).heap=w.heap.modify g (Go.Sort.onCells (Go.Sort.putCells enc 0 xs))++os:=rfl;refine⟨⟨fun c=>?_,fun p hp=>?_⟩,⟨rfl,rfl,rfl,?_⟩⟩
 ·have:=hH.one c;rw[bU]at this⊢;exact this
 ·rw[aan];rcases List.mem_cons.1 hp with rfl|hp
  ·have hg:=hH.get (dC);have aG:=(Array.getElem?_eq_some_iff.1 hg).1;rw[Array.getElem?_append_left (by simpa using aG),Array.getElem?_modify,if_pos rfl,hg];rfl
  ·have ei:=Holds.apart (A:=[(g,Obj.cells cur t fz)]) (B:=H) (by simpa using hH) (List.mem_singleton.2 rfl) hp;have hm:=hH.mem p (fA _ hp);have aG:=(Array.getElem?_eq_some_iff.1 hm).1;rw[Array.getElem?_append_left (by simpa using aG),Array.getElem?_modify,if_neg ei,hm]
 ·rw[aan];simp
end
theorem Holds.grow{w:World}{H:HL}(h:Holds w H)(os:Array Obj):Holds (Go.Sort.grow w os) H:=
 ⟨h.one,fun p hp=>by
  have hm:=h.mem p hp;have aG:=(Array.getElem?_eq_some_iff.1 hm).1;show(w.heap++os)[p.1]?=some p.2;rw[Array.getElem?_append_left aG,hm]⟩
theorem af.grow{a w:World}(h:af a w)(os:Array Obj):af a (Go.Sort.grow w os):=⟨h.os,h.tape,h.output,Nat.le_trans h.size (by show w.heap.size<=(w.heap++os).size;simp)⟩
theorem CO(es:List az):Go.Sort.flatK az.cells 4 es.toArray=(cQ es).toArray:=by
 refine Go.Sort.ext_get! (by simp[eu]) fun t ht=>?_;have Es:t<es.toArray.size*4:=by simpa using ht
 rw[Go.Sort.get_flatK _ _ _ _ Es];have hi:t/4<es.length:=by simp at Es;omega
 obtain⟨e1,e2,e3,e4⟩:=wK es (t/4) hi;have h4:t%4=0∨t%4=1∨t%4=2∨t%4=3:=by omega
 have hx:es.toArray[t/4]! =es[t/4]:=by rw[getElem!_pos es.toArray (t/4) (by simpa using hi)];rfl
 rw[hx];have hq:∀(k:Nat) (u:Value),t=t/4*4+k->(cQ es)[t/4*4+k]?=some u->(cQ es).toArray[t]! =u:=by
  intro k u hk hu;rw[<-hk]at hu;have:=(List.getElem?_eq_some_iff.1 hu);rw[getElem!_pos (cQ es).toArray t (by simpa using this.1)];simpa using this.2
 rcases h4 with h|h|h|h
 ·rw[hq 0 _ (by omega) e1,h];rfl
 ·rw[hq 1 _ (by omega) e2,h];rfl
 ·rw[hq 2 _ (by omega) e3,h];rfl
 ·rw[hq 3 _ (by omega) e4,h];rfl
theorem CP(x:Int)(w:World):Calls Tryz.prog 176 #[.int .u64 x] w fun e w'=>e=.returned (.bool false)∧w=w':=by
 go_enter func176,ntmps176;go_wp2_with fail
 go_ret;exact⟨ue (by simp),rfl⟩
def xS(x y:Int):Int:=if x<y then-1 else if y<x then 1 else 0
theorem Ni(x y:Int)(w:World):Calls Tryz.prog 111 #[.int .u64 x,.int .u64 y] w fun e w'=>e=.returned (.int .i64 (xS x y))∧w=w':=by
 have H1:=aa (CP x w);have H2:=aa (CP y w);by_cases h1:x<y
 ·have hc:=aa (show xS x y=-1 by unfold xS;rw[if_pos h1]);go_enter func111,ntmps111;go_wp2_with fail
  refine H1.o.mono ?_;rintro e w1⟨rfl,rfl⟩;go_wp2_with fail
  refine H2.o.mono ?_;rintro e w1⟨rfl,rfl⟩;go_wp2_with fail
  go_ret;rw[hc.o];exact⟨rfl,rfl⟩
 ·by_cases h2:y<x
  ·have hc:=aa (show xS x y=1 by unfold xS;rw[if_neg h1,if_pos h2]);go_enter func111,ntmps111;go_wp2_with fail
   refine H1.o.mono ?_;rintro e w1⟨rfl,rfl⟩;go_wp2_with fail
   refine H2.o.mono ?_;rintro e w1⟨rfl,rfl⟩;go_wp2_with fail
   go_ret;rw[hc.o];exact⟨rfl,rfl⟩
  ·have hc:=aa (show xS x y=0 by unfold xS;rw[if_neg h1,if_neg h2]);go_enter func111,ntmps111;go_wp2_with fail
   refine H1.o.mono ?_;rintro e w1⟨rfl,rfl⟩;go_wp2_with fail
   refine H2.o.mono ?_;rintro e w1⟨rfl,rfl⟩;go_wp2_with fail
   go_ret;rw[hc.o];exact⟨rfl,rfl⟩
theorem Nj(x y:az)(W:World):Calls Tryz.prog 110 #[.agg x.cells.toArray,.agg y.cells.toArray] W fun e w'=>e=.returned (.int .i64 (xS x.addr y.addr))∧∃q os',w'=Go.Sort.grow (W.drewN q) os':=by
 obtain⟨x0,x1,x2,x3⟩:=x;obtain⟨y0,y1,y2,y3⟩:=y;have HC:=aa (fun W'=>Ni x0 y0 W');simp only[az.cells];generalize xS x0 y0=r at*;go_enter func110,ntmps110;go_wp2_with fail
 refine(HC.o _).mono ?_;rintro e w1⟨rfl,rfl⟩;go_wp2_with fail
 go_ret;exact⟨rfl,0,_,by rw[Go.Sort.alloc_eq_grow,Go.Sort.alloc_eq_grow,Go.Sort.grow_grow];rfl⟩
theorem AH(x y:az):ltOf (fun x y:az=>xS x.addr y.addr) x y=decide (x.addr<y.addr):=by
 unfold ltOf xS;by_cases h1:x.addr<y.addr
 ·simp[h1]
 ·by_cases h2:y.addr<x.addr<;>simp[h1,h2]
theorem adT:Go.Sort.SWO (ltOf fun x y:az=>xS x.addr y.addr) where
 irrefl x:=by rw[AH];simp
 trans x y z h1 h2:=by rw[AH]at*;simp at*;omega
 ntrans x y z h1 h2:=by rw[AH]at*;simp at*;omega
abbrev Asc(l:List az):Prop:=l.Pairwise fun x y=>x.addr<=y.addr
theorem Nk(v:Value)(es:List az)(H Fr:HL)(w:World)(hv:aP v es H)(hH:Holds w (H++Fr))(kJ:es.length<=1000000):
  Calls Tryz.prog 109 #[v,.func (.func 110) #[] #[]] w (mu (fun H'=>∃nk:List az,nk.Perm es∧Asc nk∧aP v nk H') (.tuple #[]) w Fr):=by
 unfold aP at hv;rcases hv with⟨hl,⟨rfl,h0,rfl⟩|⟨g,cap,cur,fz,rfl,hn,hc,hs,ht,hf,rfl⟩⟩
 ·obtain rfl:es=[]:=List.length_eq_zero_iff.1 h0;refine Calls.mono (AnyF.slices_SortFunc_none Ph none 0 (.func (.func 110) #[] #[]) w) ?_;rintro e w'⟨rfl,rfl⟩;exact⟨rfl,[],⟨[],List.Perm.nil,List.Pairwise.nil,aP.nil⟩,hH,af.refl _⟩
 ·have eg:∀args w,(callFunc 110 args).run Tryz.prog w=.ok (.enter 110 args) w:=enters_of func110 (by kernel_rfl) rfl;have PJ:=CO es;have hHK:Go.Sort.HoldsK az.cells 4 w g 0 es.toArray:=by
   unfold Go.Sort.HoldsK;rw[PJ];intro j hj;have xF:j<(cQ es).length:=by simpa using hj
   refine⟨?_,?_⟩
   ·rw[fp,hH.cell (t:=24) (cs:=cur) (fz:=fz) (by simp)];have h1:(cur.toList.take (es.length*4))[j]?=(cQ es)[j]?:=by rw[ht]
    rw[lE,if_pos (by rw[eu]at xF;exact xF)]at h1;rw[<-Array.getElem?_toList,h1,bF xF,getElem!_pos _ j hj];rfl
   ·rw[fp];exact eO (t:=24) (cs:=cur) (fz:=fz) (hH.get (by simp)) hf (by rw[eu]at xF;omega)
  have T8:=AnyQ.slices_SortFunc Ph 4 Tryz.isAgg24 Tryz.sizeOf24 az.cells (fun _=>rfl) (fun x v hv=>by simp[az.cells]at hv;rcases hv with rfl|rfl|rfl|rfl<;>rfl) (fun x y=>xS x.addr y.addr) adT 110 #[] g 0 cap es.toArray w eg
   (fun _ _ _ _ x y=>Nj x y _) hHK (hH.lt (p:=(g,.cells cur 24 fz)) (by simp)) (by simp;omega)
  refine Calls.mono T8 ?_;rintro e w'⟨rfl,d',n,os,hp,hso,rfl⟩;unfold sortWorldK Go.Sort.putRowK;have dy:d'.size=es.length:=by have:=hp.1;simpa using this
  have UR:d'.toList.Perm es:=by
   have h:=hp.2.2;simp only[vR]at h;rw[<-dy]at h;have h':d'.toList.Perm (es.take d'.size):=by simpa using h
   rwa[dy,gU (aN _)]at h'
  have acm:Asc d'.toList:=by
   refine List.pairwise_iff_getElem.2 fun i j hi hj rF=>?_;have h:=hso i j (Nat.zero_le _) rF (by simpa[dy]using hj);rw[AH]at h;have h2:=of_decide_eq_false h;rw[getElem!_pos d' i (by simpa using hi),getElem!_pos d' j (by simpa using hj)]at h2;simp only[Array.getElem_toList];omega
  have hfd:Go.Sort.flatK az.cells 4 d'=(cQ d'.toList).toArray:=by have:=CO d'.toList;simpa using this
  rw[hfd];obtain⟨h1,h2⟩:=sP id (g:=g) (cur:=cur) (t:=24) (fz:=fz) (H:=Fr) n os (cQ d'.toList).toArray (by simpa using hH);refine⟨rfl,[(g,.cells (Go.Sort.putCells id 0 (cQ d'.toList).toArray cur) 24 fz)],⟨d'.toList,UR,acm,?_⟩,h1,h2⟩;have lP:(cQ d'.toList).length=es.length*4:=by rw[eu];simp[dy]
  have e1:=oQ id (cQ d'.toList) cur (by rw[lP];omega);rw[lP]at e1;have p7:d'.toList.length=es.length:=by simpa using dy
  exact⟨by rw[eu],.inr ⟨g,cap,_,fz,by rw[p7],by rw[p7];exact hn,hc,by rw[ij];omega,by rw[p7,e1,List.map_id],by rw[ij];exact hf,rfl⟩⟩
end Go.Proofs.YtalnifciidblkaaGreatDoor
