/-
  Texts put together: YtoelopghilbfeaaGreatPk, YtoelopghilbfeaaGreatPk2, YtoelopghilbfeaaGreatSm, YtoelopghilbfeaaGreatHd, YtoelopghilbfeaaGreatHd2, YtoelopghilbfeaaGreatEqb.
-/
import Derived.Test.YtoelopghilbfeaaGreatNdA
import Derived.Laws.Bits64b
import Derived.Test.YtoelopghilbfeaaGreatBase
import Derived.Deep.DeepCutAuto
namespace Go.Proofs.YtoelopghilbfeaaGreat
open Go.RowKit
set_option linter.unusedSimpArgs false
set_option linter.unusedVariables false
def byteN (n:Int) (i:Nat):UInt8:=UInt8.ofNat (((n / 2 ^ (8 * i)) % 256).toNat)
def fixTo (n:Int) (many j:Nat):List UInt8:=(List.range j).map fun t=>byteN n (many - 1 - t)
def fixL (n:Int) (many:Nat):List UInt8:=fixTo n many many
theorem fixL_len (n:Int) (many:Nat):(fixL n many).length=many:=by simp [fixL,fixTo]
theorem byteN_cell (n:Int) (i:Nat):cellB (byteN n i)=.int .u8 ((n / 2 ^ (8 * i)) % 256):=by
 have h0:0≤(n / 2 ^ (8 * i)) % 256∧(n / 2 ^ (8 * i)) % 256<256:=by omega
 unfold cellB byteN
 generalize (n / 2 ^ (8 * i)) % 256=r at h0 ⊢
 obtain ⟨r,rfl⟩:=Int.eq_ofNat_of_zero_le h0.1
 simp only [Int.toNat_natCast,UInt8.toNat_ofNat']
 congr 1
 omega
def FixInv (bs:List UInt8) (n:Int) (many:Nat) (w:World) (Fr:HL) (v i:Value) (wr:World):Prop :=
 ∃ (j:Nat) (H:HL),j≤many∧i=.int .i64 ((many:Int) - 1 - j)∧IsBytes v (bs++fixTo n many j) H∧Holds wr (H++Fr)∧Grew w wr
set_option maxRecDepth 20000 in
set_option maxHeartbeats 400000 in
theorem fix_any (v:Value) (bs:List UInt8) (n:Int) (many:Nat) (w:World) (Fr:HL) (hb:BytesAt w v bs) (hH:Holds w Fr) (hn:0≤n) (hm:many≤8) (hsm:bs.length≤100000) :
  Calls Tryz.prog 81 #[v,.int .u64 n,.int .i64 many] w (RetNew (fun v H=>IsBytes v (bs++fixL n many) H) w Fr):=by
 have HC:=Lib.hid (clone_any v bs w Fr hb hH (by omega))
 obtain ⟨A,c,rfl⟩:=hb.val
 clear hb hH
 go_enter Tryz.func81,Tryz.ntmps81
 go_wp2_with fail
 refine HC.out.mono ?_
 rintro e w1 ⟨v1,H1,rfl,hb1,hH1,hg1⟩
 have HB1:=Lib.hid hb1
 clear HC hb1
 go_wp2_with fail
 go_loopw [7,8] (fun v i wr=>FixInv bs n many w Fr v i wr) (fun _ i _=>(intOf i+1).toNat)
 case atStart=>exact ⟨0,H1,by omega,by go_num,by simpa [fixTo] using HB1.out,hH1,hg1⟩
 case round =>
  obtain ⟨j,H,hj,rfl,hb,hH,hg⟩:=hrel
  have HB:=Lib.hid hb;clear hb
  have HJ:=Lib.hid hj
  by_cases h1:j<many
  ·obtain ⟨i,hi⟩:∃ i:Nat,many=j+i+1:=⟨many - 1 - j,by omega⟩
   have hi2:(many:Int) - 1 - j=(i:Int):=by omega
   have hil:i≤7:=by omega
   have HI:=Lib.hid hi
   have HT:=Lib.hid (show bs++fixTo n many (j+1)=(bs++fixTo n many j)++[byteN n i] by
    unfold fixTo
    rw [List.range_succ,List.map_append,List.append_assoc,List.map_singleton,show many - 1 - j=i by omega])
   have HL:=Lib.hid (show (bs++fixTo n many j).length≤200000 by simp [fixTo];omega)
   rw [hi2]
   clear hi hi2 h1 hj
   go_wp2_with (at_builtin;refine wpList_append_T tBytes (by rfl) (.tmp 24) (.tmp 30) (by rfl) (by rfl) (by rfl) HB.out (hH.alloc' _) ReadsAt.one (by simp [Value.oneCell']) (by have:=HL.out;simp only [maxLen];omega) (by have:=HL.out;omega) ?_;intro A' c' w' H' hrow hH2 hg2)
   go_roundw
   case rel =>
    refine ⟨j+1,H',by have:=HI.out;omega,by have:=HI.out;go_num,?_,hH2,(hg.alloc _).trans hg2⟩
    rw [HT.out]
    unfold IsBytes
    rw [← byteN_cell] at hrow
    have e1:((bs++fixTo n many j)++[byteN n i]).length=(bs++fixTo n many j).length+1:=by simp only [List.length_append,List.length_cons,List.length_nil]
    rw [e1,List.map_append (l₁:=bs++fixTo n many j)]
    simp only [List.length_append,List.map_cons,List.map_nil] at hrow ⊢
    exact hrow
   case measure=>simp only [intOf];omega
  ·have hj2:j=many:=by omega
   have hi2:(many:Int) - 1 - j=-1:=by omega
   rw [hi2]
   subst hj2
   go_wp2_with fail
   go_ret
   exact ⟨_,H,rfl,HB.out,hH,hg⟩
end Go.Proofs.YtoelopghilbfeaaGreat
namespace Go.Proofs.YtoelopghilbfeaaGreat
open Go.RowKit
set_option linter.unusedSimpArgs false
set_option linter.unusedVariables false
def bigN (bs:List UInt8):Int:=bs.foldl (fun n x=>n * 256+x.toNat) 0
theorem bigN_snoc (bs:List UInt8) (x:UInt8):bigN (bs++[x])=bigN bs * 256+x.toNat:=by unfold bigN;rw [List.foldl_append];rfl
theorem bigN_bd (bs:List UInt8):0≤bigN bs∧bigN bs<256 ^ bs.length:=by
 have key:∀ (n:Nat) (bs:List UInt8),bs.length=n→0≤bigN bs∧bigN bs<256 ^ n:=by
  intro n
  induction n with
  |zero=>intro bs h;rw [List.eq_nil_of_length_eq_zero h];simp [bigN]
  |succ n ih =>
   intro bs h
   obtain ⟨bs',x,rfl⟩:∃ bs' x,bs=bs'++[x]:=by
    rcases List.eq_nil_or_concat bs with e | ⟨a,x,e⟩
    ·simp [e] at h
    ·exact ⟨a,x,by simpa using e⟩
   obtain ⟨h1,h2⟩:=ih bs' (by simpa using h)
   rw [bigN_snoc]
   have h3:(x.toNat:Int)<256:=by have:=x.toNat_lt;omega
   have h4:(256:Int) ^ (n+1)=256 ^ n * 256:=Int.pow_succ ..
   rw [h4]
   omega
 exact key _ bs rfl
theorem or_byte {z:Int} {x:Nat} (h0:0≤z) (h1:z<72057594037927936) (hx:x<256):bits BinOp.or IntKind.u64 (IntKind.u64.wrap (z * 256)) (x:Int)=z * 256+x:=by
 obtain ⟨n,rfl⟩:=Int.eq_ofNat_of_zero_le h0
 rw [IntKind.wrap_u64,show ((n:Int) * 256) % 18446744073709551616=((2 ^ 8 * n:Nat):Int) by omega,bits_or_u64_nat _ _ (by omega) (by omega),← Nat.two_pow_add_eq_or_of_lt (by omega) n]
 omega
theorem pow256_le {k:Nat} (h:k≤7):(256:Int) ^ k≤72057594037927936:=by
 rcases (show k=0∨k=1∨k=2∨k=3∨k=4∨k=5∨k=6∨k=7 by omega) with rfl | rfl | rfl | rfl | rfl | rfl | rfl | rfl <;> decide
theorem BytesAt.drop {w:World} {A:Option Addr} {n c:Nat} {bs:List UInt8} (h:BytesAt w (.slice A n c) bs) {k:Nat} (hk:k≤bs.length):BytesAt w (.slice (A.map fun x=>x.add k) (n - k) (c - k)) (bs.drop k):=by
 obtain ⟨_,A',c',hv,h1,h2,h3⟩:=h
 injection hv with e1 e2 e3
 subst e1 e2 e3
 refine ⟨by simp,A.map fun x=>x.add k,c - k,by simp,by simp;omega,by omega,fun h0=>?_⟩
 obtain ⟨b,o,rfl,hc⟩:=h3 (by simp at h0;omega)
 refine ⟨b,o+k,by simp [addr_add_lit],fun j u hu=>?_⟩
 have:=hc (k+j) u (by rw [List.map_drop,List.getElem?_drop] at hu;exact hu)
 rw [← Nat.add_assoc] at this
 exact this
theorem BytesAt.none0 {w:World} {A:Option Addr} {c2:Nat} (hc:c2≤maxLen):BytesAt w (.slice A 0 c2) [] :=
 ⟨by simp,A,c2,rfl,by simp,hc,fun h0=>absurd h0 (by simp)⟩
def UnfInv (bs:List UInt8) (many:Nat) (w:World) (n i:Value) (wr:World):Prop:=∃ k:Nat,k≤many∧i=.int .i64 k∧n=.int .u64 (bigN (bs.take k))∧w=wr
set_option maxRecDepth 20000 in
set_option maxHeartbeats 400000 in
theorem unfix_any (v:Value) (bs:List UInt8) (many:Nat) (w:World) (Fr:HL) (hb:BytesAt w v bs) (hH:Holds w Fr) (hm:many≤8) (hl:many≤bs.length) (hsm:bs.length≤100000) :
  Calls Tryz.prog 98 #[v,.int .i64 many] w fun e w'=>∃ v' H',e=.returned (.tuple #[.int .u64 (bigN (bs.take many)),v',.bool true])∧IsBytes v' (bs.drop many) H'∧Holds w' (H'++Fr)∧Grew w w':=by
 have HB:=Lib.hid hb
 obtain ⟨_,A,c,rfl,hc1,hc2,ha⟩:=hb
 have HA:=Lib.hid ha
 clear ha
 go_enter Tryz.func98,Tryz.ntmps98
 go_wp2_with fail
 go_loopw [7,26] (fun n i wr=>UnfInv bs many w n i wr) (fun _ i _=>many - (intOf i).toNat)
 case atStart=>exact ⟨0,by omega,rfl,rfl,rfl⟩
 case round =>
  obtain ⟨k,hk,rfl,rfl,rfl⟩:=hrel
  by_cases h1:k<many
  ·obtain ⟨b,o,rfl,hcl⟩:=HA.out (by omega)
   have hkb:k<bs.length:=by omega
   have hck:w.cell? ⟨b,o+k,none⟩=some (.int .u8 (bs[k].toNat:Int)):=hcl k _ (by rw [List.getElem?_map,List.getElem?_eq_getElem hkb];rfl)
   have hxl:bs[k].toNat<256:=bs[k].toNat_lt
   have HT:=Lib.hid (show bigN (bs.take (k+1))=bigN (bs.take k) * 256+bs[k].toNat by rw [List.take_succ_eq_append_getElem hkb,bigN_snoc])
   obtain ⟨hz0,hz1⟩:=bigN_bd (bs.take k)
   rw [List.length_take,Nat.min_eq_left (by omega)] at hz1
   clear hcl
   generalize bigN (bs.take k)=z at *
   generalize bs[k].toNat=x at *
   go_wp2_with fail
   go_roundw
   case rel =>
    refine ⟨k+1,by omega,by go_num,?_,rfl⟩
    rw [HT.out,or_byte hz0 (Int.lt_of_lt_of_le hz1 (pow256_le (by omega))) hxl]
   case measure=>simp only [intOf];omega
  ·have hk2:k=many:=by omega
   subst hk2
   have hd:=HB.out.drop hl
   have HC:=Lib.hid (fun (v':Value) (hx:BytesAt w v' (bs.drop k))=>clone_any v' (bs.drop k) w Fr hx hH (by simp;omega))
   clear HA
   go_wp2_with fail
   ·have hk3:bs.length - k=0:=by omega
    have hd0:bs.drop k=[]:=List.eq_nil_of_length_eq_zero (by simp;omega)
    have hbx:=BytesAt.none0 (w:=w) (A:=A) (c2:=0) (by simp [maxLen])
    rw [hd0] at HC
    refine (HC.out _ (by rw [hk3];exact hbx)).mono ?_
    rintro e w2 ⟨v2,H2,rfl,hb2,hH2,hg2⟩
    go_wp2_with fail
    go_ret3
    exact ⟨v2,H2,rfl,by rw [hd0];exact hb2,hH2,hg2⟩
   ·refine (HC.out _ hd).mono ?_
    rintro e w2 ⟨v2,H2,rfl,hb2,hH2,hg2⟩
    go_wp2_with fail
    go_ret3
    exact ⟨v2,H2,rfl,hb2,hH2,hg2⟩
end Go.Proofs.YtoelopghilbfeaaGreat
namespace Go.Proofs.YtoelopghilbfeaaGreat
open Go.RowKit
set_option linter.unusedSimpArgs false
set_option linter.unusedVariables false
def smBit (r:Int):Int:=if bits BinOp.and IntKind.u32 r 1=1 then bits BinOp.xor IntKind.u32 (r / 2) 2197175160 else r / 2
def smBits:Nat→Int→Int
 |0,r=>r
 |n+1,r=>smBit (smBits n r)
def smByte (r:Int) (x:UInt8):Int:=smBits 8 (bits BinOp.xor IntKind.u32 r (x.toNat:Int))
def smStep (r:Int) (bs:List UInt8):Int:=bs.foldl smByte r
theorem smStep_snoc (r:Int) (bs:List UInt8) (x:UInt8):smStep r (bs++[x])=smByte (smStep r bs) x:=by unfold smStep;rw [List.foldl_append];rfl
def SmTo (r:Int) (bs:List UInt8) (w:World) (rv i:Value) (wr:World):Prop:=∃ k:Nat,k≤bs.length∧i=.int .i64 k∧rv=.int .u32 (smStep r (bs.take k))∧w=wr
def SmTo2 (r:Int) (w:World) (rv i:Value) (wr:World):Prop:=∃ k:Nat,k≤8∧i=.int .i64 k∧rv=.int .u32 (smBits k r)∧w=wr
set_option maxRecDepth 20000 in
set_option maxHeartbeats 400000 in
theorem smstep_any (v:Value) (bs:List UInt8) (r:Int) (w:World) (hb:BytesAt w v bs) :
  Calls Tryz.prog 111 #[.int .u32 r,v] w fun e w'=>e=.returned (.int .u32 (smStep r bs))∧w=w':=by
 obtain ⟨_,A,c,rfl,hc1,hc2,ha⟩:=hb
 unfold maxLen at hc2
 have HA:=Lib.hid ha
 clear ha
 go_enter Tryz.func111,Tryz.ntmps111
 go_wp2_with fail
 go_loopw [0,10] (fun rv i wr=>SmTo r bs w rv i wr) (fun _ i _=>bs.length - (intOf i).toNat)
 case atStart=>exact ⟨0,by omega,rfl,rfl,rfl⟩
 case round =>
  obtain ⟨k,hk,rfl,rfl,rfl⟩:=hrel
  by_cases h1:k<bs.length
  ·obtain ⟨b,o,rfl,hcl⟩:=HA.out (by omega)
   have hck:w.cell? ⟨b,o+k,none⟩=some (.int .u8 (bs[k].toNat:Int)):=hcl k _ (by rw [List.getElem?_map,List.getElem?_eq_getElem h1];rfl)
   have hxl:bs[k].toNat<256:=bs[k].toNat_lt
   have HT:=Lib.hid (show smStep r (bs.take (k+1))=smByte (smStep r (bs.take k)) bs[k] by rw [List.take_succ_eq_append_getElem h1,smStep_snoc])
   clear hcl
   unfold smByte at HT
   generalize smStep r (bs.take k)=z at *
   generalize bs[k].toNat=x at *
   go_wp2_with fail
   go_loopw [0,18] (fun rv i wr=>SmTo2 (bits BinOp.xor IntKind.u32 z (x:Int)) w rv i wr) (fun _ i _=>8 - (intOf i).toNat)
   case atStart=>exact ⟨0,by omega,rfl,rfl,rfl⟩
   case round =>
    obtain ⟨j,hj,rfl,rfl,rfl⟩:=hrel
    by_cases h2:j<8
    ·have HS:=Lib.hid (show smBits (j+1) (bits BinOp.xor IntKind.u32 z (x:Int))=smBit (smBits j (bits BinOp.xor IntKind.u32 z (x:Int))) from rfl)
     generalize smBits j (bits BinOp.xor IntKind.u32 z (x:Int))=y at *
     unfold smBit at HS
     cases hbit:(bits BinOp.and IntKind.u32 y 1 == 1) with
     |true =>
      have HB:=Lib.hid (by simpa using hbit:bits BinOp.and IntKind.u32 y 1=1)
      go_wp2_with fail
      go_roundw
      case rel=>exact ⟨j+1,by omega,by go_num,by rw [HS.out,if_pos HB.out],rfl⟩
      case measure=>simp only [intOf];omega
     |false =>
      have HB:=Lib.hid (by simpa using hbit:¬ bits BinOp.and IntKind.u32 y 1=1)
      go_wp2_with fail
      go_roundw
      case rel=>exact ⟨j+1,by omega,by go_num,by rw [HS.out,if_neg HB.out],rfl⟩
      case measure=>simp only [intOf];omega
    ·have hj2:j=8:=by omega
     subst hj2
     rw [← HT.out]
     go_wp2_with fail
     go_roundw
     case rel=>exact ⟨k+1,by omega,by go_num,rfl,rfl⟩
     case measure=>simp only [intOf];omega
  ·have hk2:k=bs.length:=by omega
   subst hk2
   rw [List.take_length]
   go_wp2_with fail
   go_ret
   exact ⟨rfl,rfl⟩
def sumF (bs:List UInt8):Int:=bits BinOp.xor IntKind.u32 IntKind.u32.max (smStep 4294967295 bs)
theorem wrap_u32_bd (n:Int):0≤IntKind.u32.wrap n∧IntKind.u32.wrap n<4294967296:=by
 simp only [IntKind.wrap,IntKind.bits,IntKind.signed]
 simp
 omega
set_option maxRecDepth 20000 in
set_option maxHeartbeats 400000 in
theorem sum_one (A:Option Addr) (v:Value) (bs:List UInt8) (w:World) (b:Nat) (hA:A=some ⟨b,0,none⟩) (hc:w.cell? ⟨b,0,none⟩=some v) (hb:BytesAt w v bs) :
  Calls Tryz.prog 82 #[.slice A 1 1] w fun e w'=>e=.returned (.int .u32 (sumF bs))∧w=w':=by
 subst hA
 have HS:=Lib.hid (smstep_any v bs 4294967295 w hb)
 generalize hz:smStep 4294967295 bs=z at *
 have HZ:=Lib.hid hz
 clear hz hb
 go_enter Tryz.func82,Tryz.ntmps82
 go_wp2_with fail
 go_loopw [3,8] (fun rv i wr=>(rv=.int .u32 4294967295∧i=.int .i64 0∧w=wr)∨(rv=.int .u32 z∧i=.int .i64 1∧w=wr)) (fun _ i _=>1 - (intOf i).toNat)
 case atStart=>exact .inl ⟨rfl,rfl,rfl⟩
 case round =>
  rcases hrel with ⟨rfl,rfl,rfl⟩ | ⟨rfl,rfl,rfl⟩
  ·go_wp2_with fail
   refine HS.out.mono ?_
   rintro e w1 ⟨rfl,rfl⟩
   go_wp2_with fail
   go_roundw
   case rel=>exact .inr ⟨rfl,rfl,trivial⟩
   case measure=>simp [intOf]
  ·go_wp2_with fail
   go_ret
   rw [show sumF bs=bits BinOp.xor IntKind.u32 IntKind.u32.max z by unfold sumF;rw [HZ.out]]
   exact ⟨rfl,rfl⟩
theorem sumF_bd (bs:List UInt8):0≤sumF bs∧sumF bs<4294967296:=by
 unfold sumF
 exact wrap_u32_bd _
end Go.Proofs.YtoelopghilbfeaaGreat
namespace Go.Proofs.YtoelopghilbfeaaGreat
open Go.RowKit
set_option linter.unusedSimpArgs false
set_option linter.unusedVariables false
structure Hd where
 k:Int
 a:Int
 s:Int
 g:Int
deriving DecidableEq,Inhabited
def Hd.cells (h:Hd):List Value:=[.int .i64 h.k,.int .u64 h.a,.int .i64 h.s,.int .i64 h.g]
def Hd.agg (h:Hd):Value:=.agg h.cells.toArray
def Hd.zero:Hd:=⟨0,0,0,0⟩
def Hd.may (h:Hd):Bool:=(decide (1≤h.k) && decide (h.k≤4)) && ((decide (h.k=1) || decide (h.k=2)) || decide (h.a=0)) && decide (1≤h.s) && decide (h.s≤1099511627775) && decide (0≤h.g) && decide (h.g≤16777215)
def sizedB (n:Int):Bool:=decide (128≤n) && decide (n≤256)
def preL (d:List UInt8) (h:Hd):List UInt8:=((((d++[byteN h.k 0])++fixL h.a 8)++fixL h.s 5)++fixL h.g 3)++fixL 0 6
def layL (d:List UInt8) (h:Hd):List UInt8:=(preL d h++fixL (sumF (preL d h)) 4)++[0]
theorem sized_any (n:Int) (w:World):Calls Tryz.prog 78 #[.int .i64 n] w fun e w'=>e=.returned (.bool (sizedB n))∧w=w':=by
 unfold sizedB
 by_cases h:128≤n
 ·have e1:decide (128≤n)=true:=decide_eq_true h
  rw [e1]
  go_enter Tryz.func78,Tryz.ntmps78
  go_wp2_with fail
  go_ret
  exact ⟨rfl,rfl⟩
 ·have e1:decide (128≤n)=false:=decide_eq_false h
  rw [e1]
  go_enter Tryz.func78,Tryz.ntmps78
  go_wp2_with fail
  go_ret
  exact ⟨rfl,rfl⟩
set_option maxRecDepth 20000 in
set_option maxHeartbeats 4000000 in
theorem hdmay_any (h:Hd) (w:World):Calls Tryz.prog 79 #[h.agg] w fun e w'=>e=.returned (.bool h.may)∧w'=w.alloc (.cells h.cells.toArray 37):=by
 obtain ⟨k,a,s,g⟩:=h
 have key:∀ r:Bool,Hd.may ⟨k,a,s,g⟩=r→Calls Tryz.prog 79 #[.agg #[.int .i64 k,.int .u64 a,.int .i64 s,.int .i64 g]] w (fun e w'=>e=.returned (.bool r)∧w'=w.alloc (.cells #[.int .i64 k,.int .u64 a,.int .i64 s,.int .i64 g] 37))→Calls Tryz.prog 79 #[.agg #[.int .i64 k,.int .u64 a,.int .i64 s,.int .i64 g]] w (fun e w'=>e=.returned (.bool (Hd.may ⟨k,a,s,g⟩))∧w'=w.alloc (.cells #[.int .i64 k,.int .u64 a,.int .i64 s,.int .i64 g] 37)):=fun r e h=>by rw [e];exact h
 show Calls Tryz.prog 79 #[.agg #[.int .i64 k,.int .u64 a,.int .i64 s,.int .i64 g]] w (fun e w'=>e=.returned (.bool (Hd.may ⟨k,a,s,g⟩))∧w'=w.alloc (.cells #[.int .i64 k,.int .u64 a,.int .i64 s,.int .i64 g] 37))
 have kb1:(k == 1)=decide (k=1):=rfl
 have kb2:(k == 2)=decide (k=2):=rfl
 have ab:(a == 0)=decide (a=0):=rfl
 by_cases k1:k=1
 ·subst k1
  clear kb1 kb2 ab
  by_cases c1:1≤s
  rotate_left
  ·have c1b:decide (1≤s)=false:=decide_eq_false c1
   refine key false (by simp [Hd.may,c1]) ?_
   clear key
   go_enter Tryz.func79,Tryz.ntmps79
   go_wp2_with fail
   go_ret
   exact ⟨rfl,rfl⟩
  have c1b:decide (1≤s)=true:=decide_eq_true c1
  by_cases c2:s≤1099511627775
  rotate_left
  ·have c2b:decide (s≤1099511627775)=false:=decide_eq_false c2
   refine key false (by simp [Hd.may,c1,c2]) ?_
   clear key
   go_enter Tryz.func79,Tryz.ntmps79
   go_wp2_with fail
   go_ret
   exact ⟨rfl,rfl⟩
  have c2b:decide (s≤1099511627775)=true:=decide_eq_true c2
  by_cases c3:0≤g
  rotate_left
  ·have c3b:decide (0≤g)=false:=decide_eq_false c3
   refine key false (by simp [Hd.may,c1,c2,c3]) ?_
   clear key
   go_enter Tryz.func79,Tryz.ntmps79
   go_wp2_with fail
   go_ret
   exact ⟨rfl,rfl⟩
  have c3b:decide (0≤g)=true:=decide_eq_true c3
  by_cases c4:g≤16777215
  rotate_left
  ·have c4b:decide (g≤16777215)=false:=decide_eq_false c4
   refine key false (by simp [Hd.may,c1,c2,c3,c4]) ?_
   clear key
   go_enter Tryz.func79,Tryz.ntmps79
   go_wp2_with fail
   go_ret
   exact ⟨rfl,rfl⟩
  have c4b:decide (g≤16777215)=true:=decide_eq_true c4
  refine key true (by simp [Hd.may,c1,c2,c3,c4]) ?_
  clear key
  go_enter Tryz.func79,Tryz.ntmps79
  go_wp2_with fail
  go_ret
  exact ⟨rfl,rfl⟩
 by_cases k2:k=2
 ·subst k2
  clear kb1 kb2 ab k1
  by_cases c1:1≤s
  rotate_left
  ·have c1b:decide (1≤s)=false:=decide_eq_false c1
   refine key false (by simp [Hd.may,c1]) ?_
   clear key
   go_enter Tryz.func79,Tryz.ntmps79
   go_wp2_with fail
   go_ret
   exact ⟨rfl,rfl⟩
  have c1b:decide (1≤s)=true:=decide_eq_true c1
  by_cases c2:s≤1099511627775
  rotate_left
  ·have c2b:decide (s≤1099511627775)=false:=decide_eq_false c2
   refine key false (by simp [Hd.may,c1,c2]) ?_
   clear key
   go_enter Tryz.func79,Tryz.ntmps79
   go_wp2_with fail
   go_ret
   exact ⟨rfl,rfl⟩
  have c2b:decide (s≤1099511627775)=true:=decide_eq_true c2
  by_cases c3:0≤g
  rotate_left
  ·have c3b:decide (0≤g)=false:=decide_eq_false c3
   refine key false (by simp [Hd.may,c1,c2,c3]) ?_
   clear key
   go_enter Tryz.func79,Tryz.ntmps79
   go_wp2_with fail
   go_ret
   exact ⟨rfl,rfl⟩
  have c3b:decide (0≤g)=true:=decide_eq_true c3
  by_cases c4:g≤16777215
  rotate_left
  ·have c4b:decide (g≤16777215)=false:=decide_eq_false c4
   refine key false (by simp [Hd.may,c1,c2,c3,c4]) ?_
   clear key
   go_enter Tryz.func79,Tryz.ntmps79
   go_wp2_with fail
   go_ret
   exact ⟨rfl,rfl⟩
  have c4b:decide (g≤16777215)=true:=decide_eq_true c4
  refine key true (by simp [Hd.may,c1,c2,c3,c4]) ?_
  clear key
  go_enter Tryz.func79,Tryz.ntmps79
  go_wp2_with fail
  go_ret
  exact ⟨rfl,rfl⟩
 rw [decide_eq_false k1] at kb1
 rw [decide_eq_false k2] at kb2
 by_cases c5:1≤k
 rotate_left
 ·have c5b:decide (1≤k)=false:=decide_eq_false c5
  refine key false (by simp [Hd.may,c5]) ?_
  clear key
  go_enter Tryz.func79,Tryz.ntmps79
  go_wp2_with fail
  go_ret
  exact ⟨rfl,rfl⟩
 have c5b:decide (1≤k)=true:=decide_eq_true c5
 by_cases c6:k≤4
 rotate_left
 ·have c6b:decide (k≤4)=false:=decide_eq_false c6
  refine key false (by simp [Hd.may,c6]) ?_
  clear key
  go_enter Tryz.func79,Tryz.ntmps79
  go_wp2_with fail
  go_ret
  exact ⟨rfl,rfl⟩
 have c6b:decide (k≤4)=true:=decide_eq_true c6
 by_cases c7:a=0
 rotate_left
 ·rw [decide_eq_false c7] at ab
  refine key false (by simp [Hd.may,c7,k1,k2]) ?_
  clear key
  go_enter Tryz.func79,Tryz.ntmps79
  go_wp2_with fail
  go_ret
  exact ⟨rfl,rfl⟩
 subst c7
 clear ab
 by_cases c1:1≤s
 rotate_left
 ·have c1b:decide (1≤s)=false:=decide_eq_false c1
  refine key false (by simp [Hd.may,k1,k2,c5,c6,c1]) ?_
  clear key
  go_enter Tryz.func79,Tryz.ntmps79
  go_wp2_with fail
  go_ret
  exact ⟨rfl,rfl⟩
 have c1b:decide (1≤s)=true:=decide_eq_true c1
 by_cases c2:s≤1099511627775
 rotate_left
 ·have c2b:decide (s≤1099511627775)=false:=decide_eq_false c2
  refine key false (by simp [Hd.may,k1,k2,c5,c6,c1,c2]) ?_
  clear key
  go_enter Tryz.func79,Tryz.ntmps79
  go_wp2_with fail
  go_ret
  exact ⟨rfl,rfl⟩
 have c2b:decide (s≤1099511627775)=true:=decide_eq_true c2
 by_cases c3:0≤g
 rotate_left
 ·have c3b:decide (0≤g)=false:=decide_eq_false c3
  refine key false (by simp [Hd.may,k1,k2,c5,c6,c1,c2,c3]) ?_
  clear key
  go_enter Tryz.func79,Tryz.ntmps79
  go_wp2_with fail
  go_ret
  exact ⟨rfl,rfl⟩
 have c3b:decide (0≤g)=true:=decide_eq_true c3
 by_cases c4:g≤16777215
 rotate_left
 ·have c4b:decide (g≤16777215)=false:=decide_eq_false c4
  refine key false (by simp [Hd.may,k1,k2,c5,c6,c1,c2,c3,c4]) ?_
  clear key
  go_enter Tryz.func79,Tryz.ntmps79
  go_wp2_with fail
  go_ret
  exact ⟨rfl,rfl⟩
 have c4b:decide (g≤16777215)=true:=decide_eq_true c4
 refine key true (by simp [Hd.may,k1,k2,c5,c6,c1,c2,c3,c4]) ?_
 clear key
 go_enter Tryz.func79,Tryz.ntmps79
 go_wp2_with fail
 go_ret
 exact ⟨rfl,rfl⟩
end Go.Proofs.YtoelopghilbfeaaGreat
namespace Go.Proofs.YtoelopghilbfeaaGreat
open Go.RowKit
set_option linter.unusedSimpArgs false
set_option linter.unusedVariables false
theorem isErr_lit2 {c:Int} (hc:c≠0) (b:Nat) (s:ByteArray):IsErr (.iface 117 (.pointer (some ⟨b,0,none⟩))) c [(b,.cells #[.int .i64 c,.string s] 119)]:=.inr ⟨hc,b,s,rfl,rfl⟩
def HdIn (h:Hd):Prop:=0≤h.a∧h.a<18446744073709551616
theorem Hd.may_bd {h:Hd} (hm:h.may=true):1≤h.k∧h.k≤4∧1≤h.s∧h.s≤1099511627775∧0≤h.g∧h.g≤16777215:=by
 unfold Hd.may at hm
 simp only [Bool.and_eq_true,decide_eq_true_eq] at hm
 omega
theorem preL_len (d:List UInt8) (h:Hd):(preL d h).length=d.length+23:=by
 unfold preL
 simp only [List.length_append,fixL_len,List.length_cons,List.length_nil]
theorem layL_len (d:List UInt8) (h:Hd):(layL d h).length=d.length+28:=by
 unfold layL
 simp only [List.length_append,preL_len,fixL_len,List.length_cons,List.length_nil]
set_option maxRecDepth 20000 in
set_option maxHeartbeats 4000000 in
theorem lay_yes (v:Value) (d:List UInt8) (h:Hd) (w:World) (Fr:HL) (hb:FrBytes Fr v d) (hH:Holds w Fr) (hs:sizedB d.length=true) (hm:h.may=true) (hi:HdIn h) :
  Calls Tryz.prog 45 #[v,h.agg] w fun e w'=>∃ v' H',e=.returned (.tuple #[v',.nilIface])∧IsBytes v' (layL d h) H'∧Holds w' (H'++Fr)∧Grew w w':=by
 have hbd:=Hd.may_bd hm
 have hsl:d.length≤256:=by unfold sizedB at hs;simp only [Bool.and_eq_true,decide_eq_true_eq] at hs;omega
 have HS:=Lib.hid (fun w=>sized_any d.length w)
 have HM:=Lib.hid (fun w=>hdmay_any h w)
 rw [hs] at HS
 rw [hm] at HM
 obtain ⟨A,c,rfl⟩:=(hb w hH).val
 have HB:=Lib.hid hb
 have HLY:=Lib.hid (show layL d h=(preL d h++fixL (sumF (preL d h)) 4)++[0] from rfl)
 have HP:=Lib.hid (show preL d h=((((d++[byteN h.k 0])++fixL h.a 8)++fixL h.s 5)++fixL h.g 3)++fixL 0 6 from rfl)
 have HPL:=Lib.hid (preL_len d h)
 obtain ⟨hi0,hi1⟩:=hi
 generalize layL d h=out at *
 generalize preL d h=pre at *
 obtain ⟨k,a,s,g⟩:=h
 simp only [Hd.agg,Hd.cells] at *
 have hbc:=byteN_cell k 0
 have hk0:k / 2 ^ (8 * 0) % 256=IntKind.u8.wrap k:=by
  simp only [IntKind.wrap,IntKind.bits,IntKind.signed]
  simp
 rw [hk0] at hbc
 have HBC:=Lib.hid hbc
 have hH1:=(hH.alloc (.cells #[.int .i64 k,.int .u64 a,.int .i64 s,.int .i64 g] 37)).alloc' (.cells #[.int .i64 k,.int .u64 a,.int .i64 s,.int .i64 g] 37)
 have hg1:=((Grew.refl w).alloc (.cells #[.int .i64 k,.int .u64 a,.int .i64 s,.int .i64 g] 37)).alloc (.cells #[.int .i64 k,.int .u64 a,.int .i64 s,.int .i64 g] 37)
 have HSW:Hid (∀ (wx:World) (X:HL),Holds wx (X++((w.heap.size,.cells #[.int .i64 k,.int .u64 a,.int .i64 s,.int .i64 g] 37)::Fr))→wx.cell? ⟨w.heap.size,0,none⟩=some (.int .i64 k)∧wx.cell? ⟨w.heap.size,1,none⟩=some (.int .u64 a)∧wx.cell? ⟨w.heap.size,2,none⟩=some (.int .i64 s)∧wx.cell? ⟨w.heap.size,3,none⟩=some (.int .i64 g)):=Lib.hid (fun wx X hX=>⟨hX.right.hcell 0,hX.right.hcell 1,hX.right.hcell 2,hX.right.hcell 3⟩)
 clear hs hm hbc hk0 hb
 go_enter Tryz.func45,Tryz.ntmps45
 go_wp2_with fail
 refine (HS.out _).mono ?_
 rintro e w' ⟨rfl,rfl⟩
 go_wp2_with fail
 refine (HM.out _).mono ?_
 rintro e w' ⟨rfl,rfl⟩
 generalize (w.alloc (.cells #[.int .i64 k,.int .u64 a,.int .i64 s,.int .i64 g] 37)).alloc (.cells #[.int .i64 k,.int .u64 a,.int .i64 s,.int .i64 g] 37)=wb at *
 generalize w.heap.size=g3 at *
 go_upto_region 3 with fail
 refine Z_begin (fun wx=>wx.cell? ⟨g3,0,none⟩=some (.int .i64 k)∧wx.cell? ⟨g3,1,none⟩=some (.int .u64 a)∧wx.cell? ⟨g3,2,none⟩=some (.int .i64 s)∧wx.cell? ⟨g3,3,none⟩=some (.int .i64 g)) 8 (by kernel_rfl) (fun w1 hd=>HSW.out _ [] (hH1.dr hd)) (fun w1 hd hs=>?_)
 have hH3:=hH1.dr hd;have hG3:=hg1.trans (Grew.dr hd);clear hd hH1 hg1
 refine Zt 0 19 ?_ rfl hs ?_ ?_
 rotate_left
 ·rintro wx ⟨s1,s2,s3,s4⟩;go_simp;try with_reducible rfl
 simp only [pt,sA,sS,sZ]
 refine Zt 2 21 ?_ rfl hs ?_ ?_
 rotate_left
 ·rintro wx ⟨s1,s2,s3,s4⟩;go_simp;try with_reducible rfl
 simp only [pt,sA,sS,sZ]
 refine Zt 3 22 ?_ rfl hs ?_ ?_
 rotate_left
 ·rintro wx ⟨s1,s2,s3,s4⟩;go_simp;try with_reducible rfl
 simp only [pt,sA,sS,sZ]
 refine Zt 4 23 ?_ rfl hs ?_ ?_
 rotate_left
 ·rintro wx ⟨s1,s2,s3,s4⟩;go_simp;try with_reducible rfl
 simp only [pt,sA,sS,sZ]
 refine Z_two 1 5 rfl rfl (by kernel_rfl) (fun K hK=>?_) (fun K hK=>?_)
 have ⟨s1,s2,s3,s4⟩:=hs
 go_simp;refine (clone_any _ d w1 _ (HB.out w1 hH3.tail) hH3 (by omega)).mono ?_;rintro e w2 ⟨v2,H2,rfl,hb2,hH4,hg4⟩;obtain ⟨A2,c2,rfl⟩:=hb2.val;have hG4:=hG3.trans hg4;have HB2:=Lib.hid hb2;clear hb2 hg4
 clear s1 s2 s3 s4
 refine hK _ _ (HSW.out _ H2 hH4) (fun hs2=>?_);clear hK K hs;have hs:=hs2;clear hs2
 refine Z_mid 5 rfl (by kernel_rfl) (fun K hK=>?_)
 have ⟨s1,s2,s3,s4⟩:=hs
 go_simp
 clear s1 s2 s3 s4
 refine hK _ _ (HSW.out _ (_::H2) (hH4.alloc _)) (fun hs2=>?_);clear hK K hs;have hs:=hs2;clear hs2
 have hZ:Holds (w2.alloc (.cells #[.int .u8 (IntKind.u8.wrap k)] 5)) (H2++((w2.heap.size,(.cells #[.int .u8 (IntKind.u8.wrap k)] 5))::((g3,.cells #[.int .i64 k,.int .u64 a,.int .i64 s,.int .i64 g] 37)::Fr))):=Holds.swap (A:=[_]) (hH4.alloc _);have hgz:=hG4.alloc (.cells #[.int .u8 (IntKind.u8.wrap k)] 5);generalize w2.alloc (.cells #[.int .u8 (IntKind.u8.wrap k)] 5)=wz at *;generalize w2.heap.size=gz at *;clear hH4 hG4 hH3 hG3
 rotate_left
 have ⟨s1,s2,s3,s4⟩:=hs
 go_simp
 clear s1 s2 s3 s4
 refine hK _ _ (HSW.out _ [_] (hH3.alloc _)) (fun hs2=>?_);clear hK K hs;have hs:=hs2;clear hs2
 refine Z_mid 1 rfl (by kernel_rfl) (fun K hK=>?_)
 have ⟨s1,s2,s3,s4⟩:=hs
 go_simp;refine (clone_any _ d _ _ (HB.out _ (hH3.alloc' (.cells #[.int .u8 (IntKind.u8.wrap k)] 5)).tail) (hH3.alloc (.cells #[.int .u8 (IntKind.u8.wrap k)] 5)) (by omega)).mono ?_;rintro e w2 ⟨v2,H2,rfl,hb2,hH4,hg4⟩;obtain ⟨A2,c2,rfl⟩:=hb2.val;have hG4:=(hG3.alloc (.cells #[.int .u8 (IntKind.u8.wrap k)] 5)).trans hg4;have HB2:=Lib.hid hb2;clear hb2 hg4
 clear s1 s2 s3 s4
 refine hK _ _ (HSW.out _ (H2++[_]) (by simpa using hH4)) (fun hs2=>?_);clear hK K hs;have hs:=hs2;clear hs2
 have hZ:=hH4;have hgz:=hG4;generalize w1.heap.size=gz at *;generalize w2=wz at *;clear hH4 hG4 hH3 hG3
 rotate_left
 all_goals
  refine Z_mid 6 rfl (by kernel_rfl) (fun K hK=>?_)
  have ⟨s1,s2,s3,s4⟩:=hs
  refine step_append_T tBytes (by rfl) _ _ (by rfl) (by rfl) (by rfl) HB2.out hZ (ReadsAt.of_block (n:=1) (c:=1) (o:=0) (g:=gz) (hZ.get (b:=gz) (o:=(.cells #[.int .u8 (IntKind.u8.wrap k)] 5)) (by simp)) [.int .u8 (IntKind.u8.wrap k)] rfl (by omega) (by simp [maxLen]) (by intro j u hu;simpa using hu)) (by simp [Value.oneCell']) (by simp [maxLen] <;> omega) (by omega) ?_;intro A6 c6 w6 H6 hrow6 hH6 hg6
  clear s1 s2 s3 s4
  refine hK _ _ (HSW.out _ (H6++[_]) (by simpa using hH6)) (fun hs2=>?_);clear hK K hs;have hs:=hs2;clear hs2
  refine Zt 7 6 ?_ rfl hs ?_ ?_
  rotate_left
  ·rintro wx ⟨s1,s2,s3,s4⟩;go_simp;try with_reducible rfl
  simp only [pt,sA,sS,sZ]
  refine Z_done (by kernel_rfl) ?_ _
  have hH7:Holds w6 (H6++((g3,.cells #[.int .i64 k,.int .u64 a,.int .i64 s,.int .i64 g] 37)::Fr)):=Holds.mid (B:=[_]) hH6
  have hg7:=hgz.trans hg6
  have hb6:IsBytes (.slice A6 (d.length+1) c6) (d++[byteN k 0]) H6:=by
   unfold IsBytes
   rw [List.length_append,List.map_append,List.map_singleton,HBC.out]
   exact hrow6
  clear hZ hgz hg6 hH6 hs hrow6
  have HB6:=Lib.hid (hb6.at_ hH7)
  have HF1:=Lib.hid (fix_any _ _ a 8 w6 _ (hb6.at_ hH7) hH7.right hi0 (by omega) (by simp;omega))
  obtain ⟨q0,q1,q2,q3⟩:=HSW.out _ _ hH7
  clear hb6 HB6 hH7
  go_wp2_with fail
  refine HF1.out.mono ?_
  rintro e w7 ⟨v7,H7,rfl,hb7,hH7,hg8⟩
  have hgw7:=hg7.trans hg8
  have HF2:=Lib.hid (fix_any _ _ s 5 w7 _ (hb7.at_ hH7) hH7.right (by omega) (by omega) (by simp [fixL_len];omega))
  clear hb7 HF1 q0 q1 q2 q3 hg7 hg8
  obtain ⟨q0,q1,q2,q3⟩:=HSW.out _ _ hH7
  clear hH7
  go_wp2_with fail
  refine HF2.out.mono ?_
  rintro e w8 ⟨v8,H8,rfl,hb8,hH8,hgz⟩
  have hgw8:=hgw7.trans hgz
  have HF3:=Lib.hid (fix_any _ _ g 3 w8 _ (hb8.at_ hH8) hH8.right (by omega) (by omega) (by simp only [List.length_append,fixL_len,List.length_cons,List.length_nil];omega))
  clear hb8 HF2 q0 q1 q2 q3 hgw7 hgz
  obtain ⟨q0,q1,q2,q3⟩:=HSW.out _ _ hH8
  clear hH8
  go_wp2_with fail
  refine HF3.out.mono ?_
  rintro e w9 ⟨v9,H9,rfl,hb9,hH9,hgz⟩
  have hgw9:=hgw8.trans hgz
  have HF4:=Lib.hid (fix_any _ _ 0 6 w9 _ (hb9.at_ hH9) hH9.right (by omega) (by omega) (by simp only [List.length_append,fixL_len,List.length_cons,List.length_nil];omega))
  clear hb9 HF3 q0 q1 q2 q3 hgw8 hgz
  obtain ⟨q0,q1,q2,q3⟩:=HSW.out _ _ hH9
  clear hH9
  go_wp2_with fail
  refine HF4.out.mono ?_
  rintro e w10 ⟨v10,H10,rfl,hb10,hH10,hgz⟩
  have hgw10:=hgw9.trans hgz
  rw [← HP.out] at hb10
  obtain ⟨A10,c10,rfl⟩:=hb10.val
  have hb10':FrBytes (H10++((g3,.cells #[.int .i64 k,.int .u64 a,.int .i64 s,.int .i64 g] 37)::Fr)) (.slice A10 pre.length c10) pre:=fun wx hx=>hb10.at_ hx
  have hH11:=hH10.alloc (.cells #[.slice A10 pre.length c10] 38)
  have HSM:=Lib.hid (sum_one (some ⟨w10.heap.size,0,none⟩) (.slice A10 pre.length c10) pre (w10.alloc (.cells #[.slice A10 pre.length c10] 38)) w10.heap.size rfl (hH11.hcell 0) (hb10' _ hH11.tail))
  have HF5:=Lib.hid (fix_any _ _ (sumF pre) 4 _ _ (hb10' _ hH11.tail) hH11.tail (sumF_bd pre).1 (by omega) (by have:=HPL.out;omega))
  have hsb:=sumF_bd pre
  have hgw11:=hgw10.alloc (.cells #[.slice A10 pre.length c10] 38)
  have HPR:=Lib.hid hb10'
  clear HF4 q0 q1 q2 q3 hgw9 hgz hb10 hH10 hb10' hH11 hgw10
  generalize hsf:sumF pre=sf at *
  clear hsf
  go_wp2_with fail
  refine HSM.out.mono ?_
  rintro e w11 ⟨rfl,rfl⟩
  clear HSM
  go_wp2_with fail
  refine HF5.out.mono ?_
  rintro e w12 ⟨v12,H12,rfl,hb12,hH12,hgz⟩
  have hgw12:=hgw11.trans hgz
  have HB12:=Lib.hid hb12
  have hfin:Holds w12 (H12++Fr):=by
   have h:Holds w12 ((H12++(H10++[(g3,.cells #[.int .i64 k,.int .u64 a,.int .i64 s,.int .i64 g] 37)]))++Fr):=by simpa using hH12
   have h2:Holds w12 (H12++((H10++[(g3,.cells #[.int .i64 k,.int .u64 a,.int .i64 s,.int .i64 g] 37)])++Fr)):=by simpa using h
   exact h2.mid
  obtain ⟨A12,c12,rfl⟩:=hb12.val
  have hpl:=HPL.out
  have hle:(pre++fixL sf 4).length=d.length+27:=by simp [fixL_len];omega
  have HLY2:=Lib.hid (show out=(pre++fixL sf 4)++[0] by rw [HLY.out])
  clear HF5 hb12 hH12 hgz hgw11 HLY
  generalize pre++fixL sf 4=pl at *
  have hpl2:pl.length≤1000:=by omega
  clear hle hpl
  go_wp2_with (at_builtin;refine wpList_append_T tBytes (by rfl) (.tmp 48) (.tmp 49) (by rfl) (by rfl) (by rfl) HB12.out (hfin.alloc' _) ReadsAt.one (by simp [Value.oneCell']) (by simp [maxLen];omega) (by simp;omega) ?_;intro A' c' w' H' hrow hH2 hg2)
  go_ret2
  refine ⟨_,H',rfl,?_,hH2,(hgw12.alloc _).trans hg2⟩
  rw [HLY2.out]
  unfold IsBytes
  rw [List.length_append (bs:=[0]),List.map_append (l₂:=[0])]
  exact hrow
set_option maxRecDepth 20000 in
set_option maxHeartbeats 4000000 in
theorem lay_no (v:Value) (d:List UInt8) (h:Hd) (w:World) (Fr:HL) (hb:BytesAt w v d) (hH:Holds w Fr) (hno:(sizedB d.length && h.may)=false) :
  Calls Tryz.prog 45 #[v,h.agg] w fun e w'=>∃ ve He,e=.returned (.tuple #[.slice none 0 0,ve])∧IsErr ve 2 He∧Holds w' (He++Fr)∧Grew w w':=by
 obtain ⟨A,c,rfl⟩:=hb.val
 have HS:=Lib.hid (fun w=>sized_any d.length w)
 have HM:=Lib.hid (fun w=>hdmay_any h w)
 have hel:=ReadsAt.le hb
 unfold maxLen at hel
 clear hb
 generalize d.length=n at *
 obtain ⟨k,a,s,g⟩:=h
 simp only [Hd.agg,Hd.cells] at *
 have hH1:=hH.alloc' (.cells #[.int .i64 k,.int .u64 a,.int .i64 s,.int .i64 g] 37)
 have hg1:=(Grew.refl w).alloc (.cells #[.int .i64 k,.int .u64 a,.int .i64 s,.int .i64 g] 37)
 have hX:=hH.alloc (.cells #[.int .i64 k,.int .u64 a,.int .i64 s,.int .i64 g] 37)
 have y0:=hX.hcell 0
 have y1:=hX.hcell 1
 have y2:=hX.hcell 2
 have y3:=hX.hcell 3
 clear hX hH
 cases hs:sizedB n with
 |false =>
  rw [hs] at HS
  clear hno HM
  go_enter Tryz.func45,Tryz.ntmps45
  go_wp2_with fail
  refine (HS.out _).mono ?_
  rintro e w' ⟨rfl,rfl⟩
  go_wp2_with fail
  go_ret2
  exact ⟨_,_,rfl,isErr_lit2 (by decide) _ _,(by have h:=hH1.alloc (.cells #[.int .i64 2,.string ⟨#[104,101,97,100]⟩] 119);simp only [World.size_alloc] at h;exact h),hg1.alloc _⟩
 |true =>
  have hm:Hd.may ⟨k,a,s,g⟩=false:=by rw [hs] at hno;simpa using hno
  rw [hs] at HS
  rw [hm] at HM
  clear hno hm
  go_enter Tryz.func45,Tryz.ntmps45
  go_wp2_with fail
  refine (HS.out _).mono ?_
  rintro e w' ⟨rfl,rfl⟩
  go_wp2_with fail
  refine (HM.out _).mono ?_
  rintro e w' ⟨rfl,rfl⟩
  go_wp2_with fail
  go_ret2
  exact ⟨_,_,rfl,isErr_lit2 (by decide) _ _,(by have h:=(hH1.alloc' (.cells #[.int .i64 k,.int .u64 a,.int .i64 s,.int .i64 g] 37)).alloc (.cells #[.int .i64 2,.string ⟨#[104,101,97,100]⟩] 119);simp only [World.size_alloc] at h;exact h),(hg1.alloc _).alloc _⟩
end Go.Proofs.YtoelopghilbfeaaGreat
namespace Go.Proofs.YtoelopghilbfeaaGreat
open Go.RowKit
set_option linter.unusedSimpArgs false
set_option linter.unusedVariables false
set_option maxHeartbeats 400000 in
theorem equal_any (va vb:Value) (xs ys:List UInt8) (w:World) (ha:BytesAt w va xs) (hb:BytesAt w vb ys) :
  Calls Tryz.prog 99 #[va,vb] w (RetQ w (.bool (decide (xs=ys)))):=by
 have hna:=ReadsAt.le ha
 have hnb:=ReadsAt.le hb
 unfold maxLen at hna hnb
 obtain ⟨_,A,ca,rfl,_,_,ha⟩:=ha
 obtain ⟨_,B,cb,rfl,_,_,hb⟩:=hb
 have Ha:=Lib.hid ha
 have Hb:=Lib.hid hb
 clear ha hb
 by_cases hl:xs.length=ys.length
 ·have hl0:((xs.length:Int) != (ys.length:Int))=false:=by rw [hl];simp
  have hl1:(xs.length != ys.length)=false:=by rw [hl];simp
  have HL:=Lib.hid hl
  clear hl
  go_enter Tryz.func99,Tryz.ntmps99
  go_wp2
  go_loopw [13] (fun v wr=>SameTo xs ys w v wr) (fun v _=>xs.length - (intOf v).toNat)
  case atStart=>exact ⟨0,0,by omega,rfl,by simp,rfl⟩
  case round =>
   obtain ⟨k,m,hk,rfl,hrel,rfl⟩:=hrel
   have HR:=Lib.hid hrel;clear hrel
   by_cases hlt:k<xs.length
   ·have hlt2:k<ys.length:=by have:=HL.out;omega
    obtain ⟨b1,o1,rfl,h1⟩:=Ha.out (by omega)
    obtain ⟨b2,o2,rfl,h2⟩:=Hb.out (by omega)
    have c1:w.cell? ⟨b1,o1+k,none⟩=some (.int .u8 (xs[k].toNat:Int)):=h1 k _ (by simp [hlt,cellB])
    have c2:w.cell? ⟨b2,o2+k,none⟩=some (.int .u8 (ys[k].toNat:Int)):=h2 k _ (by simp [hlt2,cellB])
    clear h1 h2
    by_cases hx:xs[k]=ys[k]
    ·have e1:((xs[k].toNat:Int) != (ys[k].toNat:Int))=false:=by rw [hx];simp
     have HX:=Lib.hid hx;clear hx
     go_wp2
     go_quiet (fail)
     go_wp2
     go_roundw
     case rel=>exact ⟨k+1,m+nq,by omega,by go_num,by rw [List.take_succ_eq_append_getElem hlt,List.take_succ_eq_append_getElem hlt2,HR.out,HX.out],rfl⟩
     case measure=>simp [intOf];omega
    ·have e1:((xs[k].toNat:Int) != (ys[k].toNat:Int))=true:=by rw [byte_ne];simpa using hx
     have HX:=Lib.hid hx;clear hx
     go_wp2
     go_quiet (fail)
     go_wp2
     go_ret
     exact ⟨ret_b (b:=false) (decide_eq_false fun e=>by subst e;exact HX.out rfl).symm,m+nq,drewN2 _ _ _⟩
   ·go_wp2
    go_ret
    have h1:=HR.out
    have:=HL.out
    rw [List.take_of_length_le (by omega),List.take_of_length_le (by omega)] at h1
    exact ⟨ret_b (b:=true) (decide_eq_true h1).symm,m,rfl⟩
 ·have hl0:((xs.length:Int) != (ys.length:Int))=true:=by simp;omega
  have hl1:(xs.length != ys.length)=true:=by simpa using hl
  go_enter Tryz.func99,Tryz.ntmps99
  go_wp2
  go_ret
  exact ⟨ret_b (b:=false) (decide_eq_false fun e=>by subst e;exact hl rfl).symm,0,rfl⟩
theorem st1_any (x:UInt8) (w:World):Calls Tryz.prog 115 #[.int .u8 (x.toNat:Int)] w fun e w'=>e=.returned (.bool ((x.toNat:Int) != 255))∧w=w':=by
 go_enter Tryz.func115,Tryz.ntmps115
 go_wp2_with fail
 go_ret
 exact ⟨rfl,rfl⟩
set_option maxRecDepth 20000 in
set_option maxHeartbeats 400000 in
theorem byidx_any (v:Value) (bs:List UInt8) (w:World) (hb:BytesAt w v bs) :
  Calls Tryz.prog 124 #[v,.func (Fn.func 115) #[] #[]] w fun e w'=>∃ i:Int,e=.returned (.int .i64 i)∧w=w':=by
 have hel:=ReadsAt.le hb
 unfold maxLen at hel
 obtain ⟨_,A,c,rfl,_,_,ha⟩:=hb
 have HA:=Lib.hid ha
 clear ha
 go_enter Tryz.func124,Tryz.ntmps124
 go_wp2_with fail
 go_loopw [8] (fun i wr=>∃ k:Nat,k≤bs.length∧i=.int .i64 k∧w=wr) (fun i _=>bs.length - (intOf i).toNat)
 case atStart=>exact ⟨0,by omega,rfl,rfl⟩
 case round =>
  obtain ⟨k,hk,rfl,rfl⟩:=hrel
  by_cases hlt:k<bs.length
  ·obtain ⟨b1,o1,rfl,h1⟩:=HA.out (by omega)
   have c1:w.cell? ⟨b1,o1+k,none⟩=some (.int .u8 (bs[k].toNat:Int)):=h1 k _ (by simp [hlt,cellB])
   have HS:=Lib.hid (st1_any bs[k] w)
   clear h1
   generalize bs[k].toNat=x at *
   go_wp2_with fail
   refine HS.out.mono ?_
   rintro e w' ⟨rfl,rfl⟩
   cases hx:((x:Int) != 255) with
   |true =>
    go_wp2_with fail
    go_ret
    exact ⟨_,rfl,rfl⟩
   |false =>
    go_wp2_with fail
    go_roundw
    case rel=>exact ⟨k+1,by omega,by go_num,trivial⟩
    case measure=>simp [intOf];omega
  ·go_wp2_with fail
   go_ret
   exact ⟨_,rfl,rfl⟩
theorem byhas_any (v:Value) (bs:List UInt8) (w:World) (hb:BytesAt w v bs) :
  Calls Tryz.prog 114 #[v,.func (Fn.func 115) #[] #[]] w fun e w'=>∃ r:Bool,e=.returned (.bool r)∧w=w':=by
 have HC:=Lib.hid (byidx_any v bs w hb)
 clear hb
 go_enter Tryz.func114,Tryz.ntmps114
 go_wp2_with fail
 refine HC.out.mono ?_
 rintro e w' ⟨i,rfl,rfl⟩
 go_wp2_with fail
 go_ret
 exact ⟨_,rfl,rfl⟩
set_option maxRecDepth 20000 in
theorem hdstate_any (v:Value) (bs:List UInt8) (w:World) (hb:BytesAt w v bs) :
  Calls Tryz.prog 100 #[v] w fun e w'=>∃ st:Int,e=.returned (.int .i64 st)∧st≠1∧w=w':=by
 have HC:=Lib.hid (byhas_any v bs w hb)
 have hel:=ReadsAt.le hb
 unfold maxLen at hel
 obtain ⟨A,c,rfl⟩:=hb.val
 have HS:=Lib.hid (sized_any ((bs.length:Int) - 28) w)
 clear hb
 generalize bs.length=n at *
 cases hsz:sizedB ((n:Int) - 28) with
 |false =>
  rw [hsz] at HS
  go_enter Tryz.func100,Tryz.ntmps100
  go_wp2_with fail
  refine HS.out.mono ?_
  rintro e w' ⟨rfl,rfl⟩
  go_wp2_with fail
  go_ret
  exact ⟨_,rfl,by decide,rfl⟩
 |true =>
  rw [hsz] at HS
  go_enter Tryz.func100,Tryz.ntmps100
  go_wp2_with fail
  refine HS.out.mono ?_
  rintro e w' ⟨rfl,rfl⟩
  go_wp2_with fail
  refine HC.out.mono ?_
  rintro e w' ⟨r,rfl,rfl⟩
  cases r
  ·go_wp2_with fail
   go_ret
   exact ⟨_,rfl,by decide,rfl⟩
  ·go_wp2_with fail
   go_ret
   exact ⟨_,rfl,by decide,rfl⟩
end Go.Proofs.YtoelopghilbfeaaGreat
