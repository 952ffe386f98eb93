/-
  Lemmas.
-/
import Derived.Test.YtalnifciidblkaaGreatDoorG17
import Derived.Test.YtalnifciidblkaaGreatDoorG00
namespace Go.Proofs.YtalnifciidblkaaGreatDoor
open _root_.Go.Proofs.Tryz
open Go.RowKit
set_option linter.unusedSimpArgs false
set_option linter.unusedVariables false
set_option maxRecDepth 20000
set_option maxHeartbeats 4000000
structure Hd where
 k:Int
 a:Int
 s:Int
 g:Int
deriving DecidableEq,Inhabited
def Hd.cells(h:Hd):List Value:=[.int .i64 h.k,.int .u64 h.a,.int .i64 h.s,.int .i64 h.g]
def Hd.agg(h:Hd):Value:=.agg h.cells.toArray
def Hd.zero:Hd:=⟨0,0,0,0⟩
def Hd.may(h:Hd):Bool:=(decide (1<=h.k)&&decide (h.k<=4))&&((decide (h.k=1)||decide (h.k=2))||decide (h.a=0))&&decide (1<=h.s)&&decide (h.s<=1099511627775)&&decide (0<=h.g)&&decide (h.g<=16777215)
def sizedB(n:Int):Bool:=decide (128<=n)&&decide (n<=256)
def zV(d:List UInt8)(h:Hd):List UInt8:=((((d++[ph h.k 0])++fG h.a 8)++fG h.s 5)++fG h.g 3)++fG 0 6
def gC(d:List UInt8)(h:Hd):List UInt8:=(zV d h++fG (zU (zV d h)) 4)++[0]
theorem qu(n:Int)(w:World):Calls Tryz.prog 130 #[.int .i64 n] w fun e w'=>e=.returned (.bool (sizedB n))∧w=w':=by
 unfold sizedB;by_cases h:128<=n
 ·have e1:decide (128<=n)=true:=decide_eq_true h;rw[e1];go_enter func130,ntmps130;go_wp2_with fail
  go_ret;exact⟨rfl,rfl⟩
 ·have e1:decide (128<=n)=false:=decide_eq_false h;rw[e1];go_enter func130,ntmps130;go_wp2_with fail
  go_ret;exact⟨rfl,rfl⟩
theorem EL(h:Hd)(w:World):Calls Tryz.prog 131 #[h.agg] w fun e w'=>e=.returned (.bool h.may)∧w'=w.alloc (.cells h.cells.toArray 59):=by
 obtain⟨k,a,s,g⟩:=h;have key:∀r:Bool,Hd.may ⟨k,a,s,g⟩=r->Calls Tryz.prog 131 #[.agg #[.int .i64 k,.int .u64 a,.int .i64 s,.int .i64 g]] w (fun e w'=>e=.returned (.bool r)∧w'=w.alloc (.cells #[.int .i64 k,.int .u64 a,.int .i64 s,.int .i64 g] 59))->Calls Tryz.prog 131 #[.agg #[.int .i64 k,.int .u64 a,.int .i64 s,.int .i64 g]] w (fun e w'=>e=.returned (.bool (Hd.may ⟨k,a,s,g⟩))∧w'=w.alloc (.cells #[.int .i64 k,.int .u64 a,.int .i64 s,.int .i64 g] 59)):=fun r e h=>by rw[e];exact h
 show Calls Tryz.prog 131 #[.agg #[.int .i64 k,.int .u64 a,.int .i64 s,.int .i64 g]] w (fun e w'=>e=.returned (.bool (Hd.may ⟨k,a,s,g⟩))∧w'=w.alloc (.cells #[.int .i64 k,.int .u64 a,.int .i64 s,.int .i64 g] 59));have kb1:(k==1)=decide (k=1):=rfl;have kb2:(k==2)=decide (k=2):=rfl;have ab:(a==0)=decide (a=0):=rfl;by_cases k1:k=1
 ·subst k1;clear kb1 kb2 ab;by_cases c1:1<=s;rotate_left
  ·have c1b:decide (1<=s)=false:=decide_eq_false c1;refine key false (by simp[Hd.may,c1]) ?_;clear key;go_enter func131,ntmps131;go_wp2_with fail
   go_ret;exact⟨rfl,rfl⟩
  have c1b:decide (1<=s)=true:=decide_eq_true c1;by_cases c2:s<=1099511627775;rotate_left
  ·have c2b:decide (s<=1099511627775)=false:=decide_eq_false c2;refine key false (by simp[Hd.may,c1,c2]) ?_;clear key;go_enter func131,ntmps131;go_wp2_with fail
   go_ret;exact⟨rfl,rfl⟩
  have c2b:decide (s<=1099511627775)=true:=decide_eq_true c2;by_cases c3:0<=g;rotate_left
  ·have c3b:decide (0<=g)=false:=decide_eq_false c3;refine key false (by simp[Hd.may,c1,c2,c3]) ?_;clear key;go_enter func131,ntmps131;go_wp2_with fail
   go_ret;exact⟨rfl,rfl⟩
  have c3b:decide (0<=g)=true:=decide_eq_true c3;by_cases c4:g<=16777215;rotate_left
  ·have c4b:decide (g<=16777215)=false:=decide_eq_false c4;refine key false (by simp[Hd.may,c1,c2,c3,c4]) ?_;clear key;go_enter func131,ntmps131;go_wp2_with fail
   go_ret;exact⟨rfl,rfl⟩
  have c4b:decide (g<=16777215)=true:=decide_eq_true c4;refine key true (by simp[Hd.may,c1,c2,c3,c4]) ?_;clear key;go_enter func131,ntmps131;go_wp2_with fail
  go_ret;exact⟨rfl,rfl⟩
 by_cases k2:k=2
 ·subst k2;clear kb1 kb2 ab k1;by_cases c1:1<=s;rotate_left
  ·have c1b:decide (1<=s)=false:=decide_eq_false c1;refine key false (by simp[Hd.may,c1]) ?_;clear key;go_enter func131,ntmps131;go_wp2_with fail
   go_ret;exact⟨rfl,rfl⟩
  have c1b:decide (1<=s)=true:=decide_eq_true c1;by_cases c2:s<=1099511627775;rotate_left
  ·have c2b:decide (s<=1099511627775)=false:=decide_eq_false c2;refine key false (by simp[Hd.may,c1,c2]) ?_;clear key;go_enter func131,ntmps131;go_wp2_with fail
   go_ret;exact⟨rfl,rfl⟩
  have c2b:decide (s<=1099511627775)=true:=decide_eq_true c2;by_cases c3:0<=g;rotate_left
  ·have c3b:decide (0<=g)=false:=decide_eq_false c3;refine key false (by simp[Hd.may,c1,c2,c3]) ?_;clear key;go_enter func131,ntmps131;go_wp2_with fail
   go_ret;exact⟨rfl,rfl⟩
  have c3b:decide (0<=g)=true:=decide_eq_true c3;by_cases c4:g<=16777215;rotate_left
  ·have c4b:decide (g<=16777215)=false:=decide_eq_false c4;refine key false (by simp[Hd.may,c1,c2,c3,c4]) ?_;clear key;go_enter func131,ntmps131;go_wp2_with fail
   go_ret;exact⟨rfl,rfl⟩
  have c4b:decide (g<=16777215)=true:=decide_eq_true c4;refine key true (by simp[Hd.may,c1,c2,c3,c4]) ?_;clear key;go_enter func131,ntmps131;go_wp2_with fail
  go_ret;exact⟨rfl,rfl⟩
 rw[decide_eq_false k1]at kb1;rw[decide_eq_false k2]at kb2;by_cases c5:1<=k;rotate_left
 ·have c5b:decide (1<=k)=false:=decide_eq_false c5;refine key false (by simp[Hd.may,c5]) ?_;clear key;go_enter func131,ntmps131;go_wp2_with fail
  go_ret;exact⟨rfl,rfl⟩
 have c5b:decide (1<=k)=true:=decide_eq_true c5;by_cases c6:k<=4;rotate_left
 ·have c6b:decide (k<=4)=false:=decide_eq_false c6;refine key false (by simp[Hd.may,c6]) ?_;clear key;go_enter func131,ntmps131;go_wp2_with fail
  go_ret;exact⟨rfl,rfl⟩
 have c6b:decide (k<=4)=true:=decide_eq_true c6;by_cases c7:a=0;rotate_left
 ·rw[decide_eq_false c7]at ab;refine key false (by simp[Hd.may,c7,k1,k2]) ?_;clear key;go_enter func131,ntmps131;go_wp2_with fail
  go_ret;exact⟨rfl,rfl⟩
 subst c7;clear ab;by_cases c1:1<=s;rotate_left
 ·have c1b:decide (1<=s)=false:=decide_eq_false c1;refine key false (by simp[Hd.may,k1,k2,c5,c6,c1]) ?_;clear key;go_enter func131,ntmps131;go_wp2_with fail
  go_ret;exact⟨rfl,rfl⟩
 have c1b:decide (1<=s)=true:=decide_eq_true c1;by_cases c2:s<=1099511627775;rotate_left
 ·have c2b:decide (s<=1099511627775)=false:=decide_eq_false c2;refine key false (by simp[Hd.may,k1,k2,c5,c6,c1,c2]) ?_;clear key;go_enter func131,ntmps131;go_wp2_with fail
  go_ret;exact⟨rfl,rfl⟩
 have c2b:decide (s<=1099511627775)=true:=decide_eq_true c2;by_cases c3:0<=g;rotate_left
 ·have c3b:decide (0<=g)=false:=decide_eq_false c3;refine key false (by simp[Hd.may,k1,k2,c5,c6,c1,c2,c3]) ?_;clear key;go_enter func131,ntmps131;go_wp2_with fail
  go_ret;exact⟨rfl,rfl⟩
 have c3b:decide (0<=g)=true:=decide_eq_true c3;by_cases c4:g<=16777215;rotate_left
 ·have c4b:decide (g<=16777215)=false:=decide_eq_false c4;refine key false (by simp[Hd.may,k1,k2,c5,c6,c1,c2,c3,c4]) ?_;clear key;go_enter func131,ntmps131;go_wp2_with fail
  go_ret;exact⟨rfl,rfl⟩
 have c4b:decide (g<=16777215)=true:=decide_eq_true c4;refine key true (by simp[Hd.may,k1,k2,c5,c6,c1,c2,c3,c4]) ?_;clear key;go_enter func131,ntmps131;go_wp2_with fail
 go_ret;exact⟨rfl,rfl⟩
theorem QO(va vb:Value)(xs ys:List UInt8)(w:World)(ha:aJ w va xs)(hb:aJ w vb ys):
  Calls Tryz.prog 160 #[va,vb] w (zQ w (.bool (decide (xs=ys)))):=by
 have hna:=ag.le ha;have WA:=ag.le hb;unfold maxLen at hna WA;obtain⟨_,A,ca,rfl,_,_,ha⟩:=ha;obtain⟨_,B,cb,rfl,_,_,hb⟩:=hb;have Ha:=aa ha;have Hb:=aa hb;clear ha hb;by_cases hl:xs.length=ys.length
 ·have DF:((xs.length:Int)!=(ys.length:Int))=false:=by rw[hl];simp
  have iY:(xs.length !=ys.length)=false:=by rw[hl];simp
  have HL:=aa hl;clear hl;go_enter func160,ntmps160;go_wp2
  go_loopw [13] (fun v wr=>ado xs ys w v wr) (fun v _=>xs.length-(intOf v).toNat)
  case atStart=>exact⟨0,0,by omega,rfl,by simp,rfl⟩
  case round=>
   obtain⟨k,m,hk,rfl,hrel,rfl⟩:=hrel;have HR:=aa hrel;clear hrel;by_cases aG:k<xs.length
   ·have mQ:k<ys.length:=by have:=HL.o;omega
    obtain⟨b1,o1,rfl,h1⟩:=Ha.o (by omega);obtain⟨b2,o2,rfl,h2⟩:=Hb.o (by omega);have c1:w.cell? ⟨b1,o1+k,none⟩=some (.int .u8 (xs[k].toNat:Int)):=h1 k _ (by simp[aG,bh]);have c2:w.cell? ⟨b2,o2+k,none⟩=some (.int .u8 (ys[k].toNat:Int)):=h2 k _ (by simp[mQ,bh]);clear h1 h2;by_cases hx:xs[k]=ys[k]
    ·have e1:((xs[k].toNat:Int)!=(ys[k].toNat:Int))=false:=by rw[hx];simp
     have HX:=aa hx;clear hx;go_wp2
     go_quiet (fail)
     go_wp2
     go_roundw
     case rel=>exact⟨k+1,m+nq,by omega,by go_num,by rw[gB aG,gB mQ,HR.o,HX.o],rfl⟩
     case measure=>simp[intOf];omega
    ·have e1:((xs[k].toNat:Int)!=(ys[k].toNat:Int))=true:=by rw[YA];simpa using hx
     have HX:=aa hx;clear hx;go_wp2
     go_quiet (fail)
     go_wp2
     go_ret;exact⟨ue (b:=false) (decide_eq_false fun e=>by subst e;exact HX.o rfl).symm,m+nq,MA _ _ _⟩
   ·go_wp2
    go_ret;have h1:=HR.o;have:=HL.o;rw[gU (by omega),gU (by omega)]at h1;exact⟨ue (b:=true) (decide_eq_true h1).symm,m,rfl⟩
 ·have DF:((xs.length:Int)!=(ys.length:Int))=true:=by simp;omega
  have iY:(xs.length !=ys.length)=true:=by simpa using hl
  go_enter func160,ntmps160;go_wp2
  go_ret;exact⟨ue (b:=false) (decide_eq_false fun e=>by subst e;exact hl rfl).symm,0,rfl⟩
theorem YJ(x:UInt8)(w:World):Calls Tryz.prog 203 #[.int .u8 (x.toNat:Int)] w fun e w'=>e=.returned (.bool ((x.toNat:Int)!=255))∧w=w':=by
 go_enter func203,ntmps203;go_wp2_with fail
 go_ret;exact⟨rfl,rfl⟩
theorem QP(v:Value)(bs:List UInt8)(w:World)(hb:aJ w v bs):
  Calls Tryz.prog 237 #[v,.func (Fn.func 203) #[] #[]] w fun e w'=>∃i:Int,e=.returned (.int .i64 i)∧w=w':=by
 have Oj:=ag.le hb;unfold maxLen at Oj;obtain⟨_,A,c,rfl,_,_,ha⟩:=hb;have HA:=aa ha;clear ha;go_enter func237,ntmps237;go_wp2_with fail
 go_loopw [8] (fun i wr=>∃k:Nat,k<=bs.length∧i=.int .i64 k∧w=wr) (fun i _=>bs.length-(intOf i).toNat)
 case atStart=>exact⟨0,by omega,rfl,rfl⟩
 case round=>
  obtain⟨k,hk,rfl,rfl⟩:=hrel;by_cases aG:k<bs.length
  ·obtain⟨b1,o1,rfl,h1⟩:=HA.o (by omega);have c1:w.cell? ⟨b1,o1+k,none⟩=some (.int .u8 (bs[k].toNat:Int)):=h1 k _ (by simp[aG,bh]);have HS:=aa (YJ bs[k] w);clear h1;generalize bs[k].toNat=x at*;go_wp2_with fail
   refine HS.o.mono ?_;rintro e w'⟨rfl,rfl⟩;cases hx:((x:Int)!=255)with
   |true=>
    go_wp2_with fail
    go_ret;exact⟨_,rfl,rfl⟩
   |false=>
    go_wp2_with fail
    go_roundw
    case rel=>exact⟨k+1,by omega,by go_num,trivial⟩
    case measure=>simp[intOf];omega
  ·go_wp2_with fail
   go_ret;exact⟨_,rfl,rfl⟩
theorem QQ(v:Value)(bs:List UInt8)(w:World)(hb:aJ w v bs):
  Calls Tryz.prog 202 #[v,.func (Fn.func 203) #[] #[]] w fun e w'=>∃r:Bool,e=.returned (.bool r)∧w=w':=by
 have HC:=aa (QP v bs w hb);clear hb;go_enter func202,ntmps202;go_wp2_with fail
 refine HC.o.mono ?_;rintro e w'⟨i,rfl,rfl⟩;go_wp2_with fail
 go_ret;exact⟨_,rfl,rfl⟩
theorem zo(v:Value)(bs:List UInt8)(w:World)(hb:aJ w v bs):
  Calls Tryz.prog 161 #[v] w fun e w'=>∃st:Int,e=.returned (.int .i64 st)∧st≠1∧w=w':=by
 have HC:=aa (QQ v bs w hb);have Oj:=ag.le hb;unfold maxLen at Oj;obtain⟨A,c,rfl⟩:=hb.val;have HS:=aa (qu ((bs.length:Int)-28) w);clear hb;generalize bs.length=n at*;cases fT:sizedB ((n:Int)-28)with
 |false=>
  rw[fT]at HS;go_enter func161,ntmps161;go_wp2_with fail
  refine HS.o.mono ?_;rintro e w'⟨rfl,rfl⟩;go_wp2_with fail
  go_ret;exact⟨_,rfl,by decide,rfl⟩
 |true=>
  rw[fT]at HS;go_enter func161,ntmps161;go_wp2_with fail
  refine HS.o.mono ?_;rintro e w'⟨rfl,rfl⟩;go_wp2_with fail
  refine HC.o.mono ?_;rintro e w'⟨r,rfl,rfl⟩;cases r
  ·go_wp2_with fail
   go_ret;exact⟨_,rfl,by decide,rfl⟩
  ·go_wp2_with fail
   go_ret;exact⟨_,rfl,by decide,rfl⟩
end Go.Proofs.YtalnifciidblkaaGreatDoor
