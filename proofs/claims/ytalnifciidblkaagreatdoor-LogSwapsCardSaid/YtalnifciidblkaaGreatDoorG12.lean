/-
  Lemmas.
-/
import Derived.Test.YtalnifciidblkaaGreatDoorG00
import Derived.Lib.SlBuf
import Derived.Lib.MakeNoZero
import Derived.Laws.Externs
import Derived.Deep.DeepCutAuto
namespace Go.Proofs.YtalnifciidblkaaGreatDoor
open _root_.Go.Proofs.Tryz
open Go.RowKit
set_option linter.unusedSimpArgs false
set_option linter.unusedVariables false
set_option maxRecDepth 20000
set_option maxHeartbeats 2000000
section
variable{P:Program}{w:World}
theorem pB(dT sT ty elem:TypeId)(hu:P.underlying dT=some (.slice elem))(fT:(P.info? elem).map (·.size)=some 1){g off dLen dCap:Nat}{cur:Array Value}{t:TypeId}{fz:Nat×Nat}
  (hg:w.heap[g]?=some (.cells cur t fz))(hf:Bk fz cur.size){v:Value}{m:Nat}{cs:List Value}(nP:ag w 1 v m cs)(pM:off+min m dLen<=cur.size)(h1:∀x∈cs,x.oneCell'=true):
  (Builtin.copy_ #[dT,sT] ty #[.slice (some ⟨g,off,none⟩) dLen dCap,v]).run P w=
   .ok (goInt ((min m dLen:Nat):Int)) (w.setRow g (cur.toList.take off++cs.take (min m dLen)++cur.toList.drop (off+min m dLen)).toArray):=by
 obtain⟨hl,A,c,rfl,hmc,nO,hsr⟩:=nP;obtain⟨i,hi,xC⟩:∃i,P.info? elem=some i∧i.size=1:=by
  cases h:P.info? elem with
  |none=>rw[h]at fT;cases fT
  |some i=>rw[h]at fT;exact⟨i,rfl,by simpa using fT⟩
 have IE:(cs.take (min m dLen)).length=min m dLen:=by rw[dG,hl];omega
 have bD:=iW (P:=P) g off t fz (cs.take (min m dLen)) 0 cur w hg hf (by rw[IE];omega) (fun x hx=>h1 x (rJ hx));rw[IE,fD]at bD;by_cases h0:min m dLen=0
 ·rw[h0]at bD⊢;have hz:(Nat.min m dLen)=0:=h0;simp only[List.take_zero]at bD;cases A with
  |none=>simp[Builtin.copy_,run_underlying hu,sizeOf,typeInfo,hi,xC,Builtin.lenOf,hz,Builtin.firstCells,bD]<;>(try(congr 1;omega))
  |some a=>simp[Builtin.copy_,run_underlying hu,sizeOf,typeInfo,hi,xC,Builtin.lenOf,hz,Builtin.firstCells,loadCells,loadCellsFrom,bD]<;>(try(congr 1;omega))
 ·obtain⟨b,o,rfl,ae⟩:=hsr (by omega);have yT:=run_firstCells_some (P:=P) (w:=w) 1 (min m dLen) ⟨b,o,none⟩ m c (cs.take (min m dLen)) (by rw[IE];omega) (fun j u hu=>by
   rw[cV];rw[lE]at hu;split at hu
   ·exact ae j u hu
   ·cases hu)
  have hz:(Nat.min m dLen)=min m dLen:=rfl;simp[Builtin.copy_,run_underlying hu,sizeOf,typeInfo,hi,xC,Builtin.lenOf,hz,yT,bD]<;>(try(congr 1;omega))
end
theorem wrap_small(z:Int)(h0:-9223372036854775808<=z)(h1:z<=9223372036854775807):IntKind.i64.wrap z=z:=by
 have e1:(2^IntKind.i64.bits:Int)=18446744073709551616:=by decide
 have e2:(2^(IntKind.i64.bits-1):Int)=9223372036854775808:=by decide
 have e3:IntKind.i64.signed=true:=rfl;unfold IntKind.wrap;simp only[e1,e2,e3,Bool.true_and,decide_eq_true_eq];split<;>omega
theorem EH{P:Program}{ops:Array Oper}{o:Oper}{a:Act}{w:World}{K:Act->World->Prop}{Q:Exit->Act->World->Prop}{E:Prop}(nj:o.guard=none)(d s:Operand)(t t':TypeId)(ds:Option Nat)(dy:o.dst=ds)
  (ho:o.op=.call {callee:=.builtin .copy,args:=#[d,s],argTypes:=#[t,t']})(v u:Value)(hd:a.eval d=v)(hs:a.eval s=u){v':Value}{w':World}
  (hr:(Builtin.copy_ #[t,t'] o.type #[v,u]).run P w=.ok v' w')(h:K (a.put ds v') w'):
  if Region.wanted o (yielded ops a.tmps)=true then Oper.wp P o a w K Q else E:=by
 have hw:Region.wanted o (yielded ops a.tmps)=true:=by simp[Region.wanted,nj]
 rw[if_pos hw];subst dy;exact Lib.wp_copy_run w d s t t' ho v u hd hs hr h
theorem Qz(n:Nat)(hn:n<=1000000)(w:World):Calls Tryz.prog 201 #[.int .u64 1,.int .u64 (n:Int)] w fun e w'=>e=.returned (.tuple #[.int .u64 0,.int .u64 (n:Int)])∧w=w':=by
 have b1:bits BinOp.and .u64 1 4294967295=1:=by decide
 have b2:bits BinOp.and .u64 (n:Int) 4294967295=(n:Int):=by
  unfold bits;simp;rw[show(4294967295%2^IntKind.u64.bits:Nat)=2^32-1 by decide,Nat.and_two_pow_sub_one_eq_mod];rw[show(2^IntKind.u64.bits:Nat)=18446744073709551616 by decide,show(2^32:Nat)=4294967296 by decide,Nat.mod_eq_of_lt (show n<18446744073709551616 by omega),Nat.mod_eq_of_lt (show n<4294967296 by omega)];have hw:∀z:Int,IntKind.u64.wrap z=z%18446744073709551616:=fun z=>rfl;rw[hw];omega
 have d0:(n:Int)/4294967296=0:=by omega
 go_enter func201,ntmps201;go_wp2_with fail
 go_ret2
 refine⟨?_,rfl⟩;simp;decide
theorem mul_one(n:Nat)(hn:n<=1000000)(w:World):Calls Tryz.prog 151 #[.int .u64 1,.int .u64 (n:Int)] w fun e w'=>e=.returned (.tuple #[.int .u64 0,.int .u64 (n:Int)])∧w=w':=by
 have HM:=aa (Qz n hn w);go_enter func151,ntmps151;go_wp2_with fail
 refine HM.o.mono ?_;rintro e wx⟨rfl,rfl⟩;go_wp2_with fail
 go_ret2
 exact⟨rfl,rfl⟩
def Z3(g n:Nat)(x:UInt8)(w:World)(Fr:HL)(iv:Value)(wr:World):Prop:=
 ∃(j:Nat) (cur:Array Value),1<=j∧j<=n∧iv=.int .i64 j∧n<=cur.size∧cur.toList.take j=(List.replicate j x).map bh∧cur.size<=maxLen∧Holds wr ((g,.cells cur 5)::Fr)∧af w wr
theorem Cz(v:Value)(x:UInt8)(n:Nat)(w:World)(Fr:HL)(hb:aJ w v [x])(hH:Holds w Fr)(qM:1<=n)(hn:n<=8192):
  Calls Tryz.prog 80 #[v,.int .i64 (n:Int)] w (cB (fun v H=>ar v (List.replicate n x) H) w Fr):=by
 obtain⟨A,c,rfl⟩:=hb.val;simp only[mT]at hb⊢;have HM:=aa (fun(wx:World)=>mul_one n (by omega) wx);obtain⟨cs,Z4,hle,hlm⟩:=Lib.run_makeNoZero (P:=Tryz.prog) w #[3] 60 5 ee.under n (by omega);have aiU:(callFunc 152 #[.int .i64 (n:Int)]).run Tryz.prog w=.ok (.value (.slice (some ⟨w.heap.size,0,none⟩) n cs.size)) ((w.alloc (.cells cs 5)).drewN 2):=by
  rw[run_callFunc_extern func152 (by kernel_rfl) (by kernel_rfl) (by kernel_rfl) (e:=Extern.BytealgMakeNoZero.makeNoZero #[3] #[60]) (by kernel_rfl),Z4];rfl
 clear Z4;have nO:cs.size<=maxLen:=hlm (by simp[maxLen];omega);unfold maxLen at nO;have ax:=(hH.alloc (.cells cs 5)).drewN 2;have gY:=((af.refl w).alloc (.cells cs 5)).drewN 2;have Im:ag ((w.alloc (.cells cs 5)).drewN 2) 1 (.slice A 1 c) 1 [bh x]:=(ag.alloc hb _).drewN 2;have rN:=pB (P:=Tryz.prog) 60 60 3 5 ee.under (by kernel_rfl) (g:=w.heap.size) (off:=0) (dLen:=n) (dCap:=n) (ax.get (dC)) (lb _) Im (by omega) (by intro y hy;rw[List.mem_singleton.1 hy];rfl);rw[show min 1 n=1 by omega]at rN;have rG:=aa ax;have IF:=aa gY;clear ax gY Im hlm;go_enter func80,ntmps80;go_wp2_with fail
 refine(HM.o w).mono ?_;rintro e wx⟨rfl,rfl⟩;go_wp2_with (at_builtin;refine Lib.wpList_copy_run _ rfl _ _ 60 60 rfl _ _ rfl rfl rN ?_)
 go_loopw [10,11] (fun iv _ wr=>Z3 w.heap.size n x w Fr iv wr) (fun iv _ _=>n-(intOf iv).toNat)
 case atStart=>
  have Ip:cs.toList.tail.length=cs.size-1:=by simp
  refine⟨1,_,aN _,qM,rfl,?_,?_,?_,rG.o.pw _,IF.o.setRow _ _⟩
  ·simp;omega
  ·simp
  ·simp[maxLen];omega
 case round=>
  obtain⟨j,cur,hj1,hjn,rfl,mM,oT,XK,eh,gf⟩:=hrel;unfold maxLen at XK;clear rG IF rN aiU hb;by_cases aG:j<n
  ·have mQ:(j:Int)<(n:Int):=by omega
   have DS:min (j:Int) (n:Int)=(j:Int):=by omega
   go_upto_region 20 with fail
   have nP:∀wx:World,Holds wx ((w.heap.size,.cells cur 5)::Fr)->ag wx 1 (.slice (some ⟨w.heap.size,0,none⟩) j n) j ((List.replicate j x).map bh):=fun wx hx=>
    ag.ft (hx.get (dC)) _ (by simp) hjn (by simp[maxLen];omega) (fun i u hu=>by
     rw[<-oT,lE]at hu;split at hu
     ·simpa using hu
     ·cases hu)
   obtain⟨mm,AR⟩:∃mm,mm=min j (n-j):=⟨_,rfl⟩;have tT:mm<=j:=by omega
   have S6:j+mm<=n:=by omega
   have oc:1<=mm:=by omega
   obtain⟨xM,gT⟩:∃xM,xM=(cur.toList.take j++((List.replicate j x).map bh).take mm++cur.toList.drop (j+mm)).toArray:=⟨_,rfl⟩;have Dk:∀wx:World,Holds wx ((w.heap.size,.cells cur 5)::Fr)->(Builtin.copy_ #[60,60] 3 #[.slice (some ⟨w.heap.size,j,none⟩) (n-j) (n-j),.slice (some ⟨w.heap.size,0,none⟩) j n]).run Tryz.prog wx=.ok (.int .i64 (mm:Int)) (wx.setRow w.heap.size xM):=fun wx hx=>by
    have:=pB (P:=Tryz.prog) 60 60 3 5 ee.under (by kernel_rfl) (g:=w.heap.size) (off:=j) (dLen:=n-j) (dCap:=n-j) (hx.get (dC)) (lb _) (nP wx hx) (by omega) (by intro y hy;obtain⟨z,_,rfl⟩:=List.mem_map.1 hy;rfl);rw[<-AR,<-gT]at this;exact this
   have abU:xM.size=cur.size:=by rw[gT];simp;omega
   have agG:xM.toList.take (j+mm)=(List.replicate (j+mm) x).map bh:=by
    have e1:(cur.toList.take j++((List.replicate j x).map bh).take mm).length=j+mm:=by simp;omega
    rw[gT];show List.take (j+mm) (cur.toList.take j++((List.replicate j x).map bh).take mm++cur.toList.drop (j+mm))=_;rw[BK (by omega),gU (by omega),oT,<-List.map_take,List.take_replicate,<-dm,List.replicate_append_replicate];congr 2;omega
   have jP:=aa agG;have HCS:=aa (show n<=xM.size by rw[abU];exact mM);have pF:=aa (show xM.size<=maxLen by rw[abU];simp[maxLen];omega);clear AR gT abU agG;have am2:∀W:World,(Instr.slice 60 (.slice (some ⟨w.heap.size,0,none⟩) n n) (some (.int .i64 (j:Int))) none none).run Tryz.prog W=.ok (.slice (some ⟨w.heap.size,j,none⟩) (n-j) (n-j)) W:=fun W=>by
    have:=Lib.run_slice_tailV (P:=Tryz.prog) W 60 5 ee.under (fun w=>by obtain⟨i,hi,_,h1,_⟩:=ee.info;simp[sizeOf,typeInfo,hi,h1]) w.heap.size n j (by omega);rw[this];unfold Lib.tailV;rw[if_neg (by omega)]
   refine aF (fun _=>True∧True) 10 (by kernel_rfl) (fun w1 hd=>⟨trivial,trivial⟩) (fun w1 hd hs=>?_);have ax:=eh.dr hd;have gY:=gf.trans (af.dr hd);clear hd eh gf;refine dY 0 1 2 3 ?_;refine Ag 4 5 6 ?_;refine Zm 7 fun K hK=>?_;refine EH rfl (.tmp 70) (.tmp 73) 60 60 (some 74) rfl rfl _ _ rfl rfl (Dk w1 ax) ?_;refine hK _ _ (⟨trivial,trivial⟩) (fun _=>?_);clear hK K hs;rename_i hs;refine qL 8 9 ?_;refine Ze ?_;have ay:=Holds.pw ax xM;have hGf:=gY.setRow w.heap.size xM;have dN:Z3 w.heap.size n x w Fr (.int .i64 ((j:Int)+(mm:Int))) (w1.setRow w.heap.size xM):=
    ⟨j+mm,xM,by omega,S6,by congr 1,HCS.o,jP.o,pF.o,ay,hGf⟩
   have fj:=aa dN;have Ss:IntKind.i64.wrap ((j:Int)+(mm:Int))=(j:Int)+(mm:Int):=wrap_small _ (by omega) (by omega);clear dN ay hGf ax gY Dk nP am2 jP HCS pF;go_wp2_with fail
   rw[Ss];exact⟨fj.o,by simp[intOf];omega⟩
  ·obtain rfl:j=n:=by omega
   go_wp2_with fail
   go_ret;refine⟨_,[(w.heap.size,.cells cur 5)],rfl,?_,eh,gf⟩;unfold ar;rw[gV];exact⟨by simp,.inr ⟨_,_,cur,(0,0),rfl,aN _,by simp[maxLen];omega,by omega,by rw[jc];exact oT,lb _,rfl⟩⟩
structure Mi where
 at_:Int
 kind:Int
 bytes:Int
 fill:UInt8
def Mi.cells(m:Mi):List Value:=[.int .i64 m.at_,.int .i64 m.kind,.int .i64 m.bytes,bh m.fill]
def Mi.agg(m:Mi):Value:=.agg #[.int .i64 m.at_,.int .i64 m.kind,.int .i64 m.bytes,bh m.fill]
def Mi.zero:Mi:=⟨0,0,0,0⟩
def L6(w:World)(v:Value)(ms:List Mi):Prop:=ag w 4 v ms.length (ms.map Mi.cells).flatten
def agH(v:Value)(ms:List Mi)(H:HL):Prop:=au 87 4 v ms.length (ms.map Mi.cells).flatten H
theorem abV:rP Tryz.prog 64 87 4 32 (.agg #[.int .i64 0,.int .i64 0,.int .i64 0,.int .u8 0]):=rP.mk' (by kernel_rfl) (by kernel_rfl) (by rfl) (by decide)
def idxFrom(n:Int):List Mi->Int->Int
 |[],_=>-1
 |m::ms,k=>if m.at_=n then k else idxFrom n ms (k+1)
def F9(Fr:HL)(v:Value)(ms:List Mi):Prop:=∀w,Holds w Fr->L6 w v ms
theorem YC(n:Int)(m:Mi)(b:Nat)(w:World)(Fr:HL)(hH:Holds w Fr)(hb:(b,Obj.cells #[.int .i64 n] 3)∈Fr):
  Calls Tryz.prog 234 #[.agg #[.int .i64 m.at_,.int .i64 m.kind,.int .i64 m.bytes,bh m.fill],.pointer (some ⟨b,0,none⟩)] w (cM (.bool (m.at_==n)) w Fr):=by
 have bM:=hH.alloc (.cells #[.int .i64 m.at_,.int .i64 m.kind,.int .i64 m.bytes,bh m.fill] 87);have z0:=bM.ae 0;have z1:=bM.cell (fA _ hb) 0;simp only[vO,iK,mS]at z0 z1;go_enter func234,ntmps234;go_wp2_with fail
 go_ret;exact⟨rfl,bM.tail,(af.refl w).alloc _⟩
def Z5(n:Int)(ms:List Mi)(w:World)(Fr:HL)(iv:Value)(wr:World):Prop:=
 ∃k:Nat,k<=ms.length∧iv=.int .i64 k∧idxFrom n ms 0=idxFrom n (ms.drop k) k∧Holds wr Fr∧af w wr
theorem QA(n:Int)(v:Value)(ms:List Mi)(b:Nat)(w:World)(Fr:HL)(hv:F9 Fr v ms)(hH:Holds w Fr)(hb:(b,Obj.cells #[.int .i64 n] 3)∈Fr):
  Calls Tryz.prog 233 #[v,.func (Fn.func 234) #[] #[.pointer (some ⟨b,0,none⟩)]] w (cM (.int .i64 (idxFrom n ms 0)) w Fr):=by
 have HV:=aa hv;obtain⟨_,A,c,rfl,ff,gT,_⟩:=hv w hH;unfold maxLen at gT;go_enter func233,ntmps233;go_wp2_with fail
 go_loopw [5,8] (fun _ iv wr=>Z5 n ms w Fr iv wr) (fun _ iv _=>ms.length-(intOf iv).toNat)
 case atStart=>exact⟨0,by omega,rfl,rfl,hH,af.refl w⟩
 case round=>
  obtain⟨k,hk,rfl,S7,eh,gf⟩:=hrel;by_cases aG:k<ms.length
  ·obtain⟨_,A',c',xD,_,_,cm⟩:=HV.o wr eh;injection xD with gM _ kS;subst gM kS;obtain⟨ba,oa,rfl,Lz⟩:=cm (by omega);have fT:∀z∈ms.map Mi.cells,z.length=4:=by intro z hz;obtain⟨a,_,rfl⟩:=List.mem_map.1 hz;rfl
   have Oa:(ms.map Mi.cells)[k]?=some (ms[k]).cells:=by simp[aG]
   have y0:=Lz (k*4+0) (.int .i64 (ms[k]).at_) (by rw[dS _ fT k 0 _ Oa (by omega)];rfl);have y1:=Lz (k*4+1) (.int .i64 (ms[k]).kind) (by rw[dS _ fT k 1 _ Oa (by omega)];rfl);have y2:=Lz (k*4+2) (.int .i64 (ms[k]).bytes) (by rw[dS _ fT k 2 _ Oa (by omega)];rfl);have y3:=Lz (k*4+3) (bh (ms[k]).fill) (by rw[dS _ fT k 3 _ Oa (by omega)];rfl);rw[fD]at y0;rw[<-gW]at y1 y2 y3;have IG:ms.drop k=ms[k]::ms.drop (k+1):=nF aG;rw[IG]at S7;clear Lz cm fT Oa IG hH;generalize ms[k]=m at*;obtain⟨ma,mk,mb,mf⟩:=m;simp only at y0 y1 y2 y3 S7;go_wp2_with fail
   refine(YC n ⟨ma,mk,mb,mf⟩ b wr Fr eh hb).mono ?_;rintro e w3⟨rfl,aD,bj⟩;rw[idxFrom]at S7;by_cases hm:ma=n
   ·have e1:(ma==n)=true:=by simp[hm]
    rw[if_pos hm]at S7;have HIX:=aa S7;clear S7 hm y0 y1 y2 y3 eh;go_wp2_with fail
    go_ret;exact⟨by rw[HIX.o];rfl,aD,gf.trans bj⟩
   ·have e1:(ma==n)=false:=by simpa using hm
    rw[if_neg hm]at S7;have dN:Z5 n ms w Fr (.int .i64 ((k:Int)+1)) w3:=⟨k+1,by omega,by go_num,by rw[S7];norm_cast,aD,gf.trans bj⟩;have fj:=aa dN;clear S7 hm y0 y1 y2 y3 eh dN aD bj;go_wp2_with fail
    exact⟨fj.o,by simp[intOf];omega⟩
  ·obtain rfl:k=ms.length:=by omega
   rw[List.drop_length]at S7;go_wp2_with fail
   go_ret;exact⟨by rw[S7];rfl,eh,gf⟩
def zS(n:Int)(ms:List Mi):Option Mi:=ms.find? fun m=>decide (m.at_=n)
theorem JO(n:Int):∀(ms:List Mi) (k:Int),0<=k->(idxFrom n ms k=-1∧zS n ms=none)∨∃i:Nat,i<ms.length∧idxFrom n ms k=k+i∧zS n ms=ms[i]?
 |[],k,_=>.inl ⟨rfl,rfl⟩
 |m::ms,k,hk=>by
  unfold idxFrom zS;rw[List.find?_cons];by_cases h:m.at_=n
  ·right;exact⟨0,by simp,by simp[h],by simp[h]⟩
  ·have ih:=JO n ms (k+1) (by omega);rw[if_neg h];simp only[h,decide_false];rcases ih with⟨h1,h2⟩|⟨i,h1,h2,h3⟩
   ·left;exact⟨h1,h2⟩
   ·right;exact⟨i+1,by simp;omega,by rw[h2];push_cast;omega,by rw[mS];exact h3⟩
theorem O4(n:Int)(v:Value)(ms:List Mi)(w:World)(Fr:HL)(hv:F9 Fr v ms)(hH:Holds w Fr):
  Calls Tryz.prog 194 #[.int .i64 n,v] w (cM (.tuple #[((zS n ms).getD Mi.zero).agg,.bool (zS n ms).isSome]) w Fr):=by
 have HV:=aa hv;obtain⟨_,A,c,rfl,ff,gT,_⟩:=hv w hH;unfold maxLen at gT;have bM:=(hH.alloc (.cells #[.int .i64 n] 3)).alloc (.cells #[.int .i64 0,.int .i64 0,.int .i64 0,.int .u8 0] 87);have cJ:=((af.refl w).alloc (.cells #[.int .i64 n] 3)).alloc (.cells #[.int .i64 0,.int .i64 0,.int .i64 0,.int .u8 0] 87);rw[World.size_alloc]at bM;go_enter func194,ntmps194;go_wp2_with fail
 refine(QA n (.slice A ms.length c) ms w.heap.size _ _ (fun wx hx=>HV.o wx hx.tail.tail) bM (by simp)).mono ?_;rintro e w3⟨rfl,aD,bj⟩;have cf:=cJ.trans bj;generalize w.heap.size=t at*;have z0:=aD.ae 0;have z1:=aD.ae 1;have z2:=aD.ae 2;have z3:=aD.ae 3;have f0:=aD.ah 0;have f1:=aD.ah 1;have f2:=aD.ah 2;have f3:=aD.ah 3;simp only[vO,iK,mS]at z0 z1 z2 z3;have cH:Tryz.f194.results=#[ResultVar.cell 4 87,ResultVar.tmp 5]:=by rfl
 rcases JO n ms 0 (by omega)with⟨h1,h2⟩|⟨i,h1,h2,h3⟩
 ·rw[h1];have H2:=aa h2;clear h1 h2 hH bM cJ;go_wp2_with fail
  have hS:=Holds.set (Holds.set (Holds.set (Holds.set aD 0 (.int .i64 0)) 1 (.int .i64 0)) 2 (.int .i64 0)) 3 (.int .u8 0);have Ah:=(((cf.setCell ⟨t+1,0,none⟩ (.int .i64 0)).setCell ⟨t+1,1,none⟩ (.int .i64 0)).setCell ⟨t+1,2,none⟩ (.int .i64 0)).setCell ⟨t+1,3,none⟩ (.int .u8 0);generalize(((w3.setCell ⟨t+1,0,none⟩ (.int .i64 0)).setCell ⟨t+1,1,none⟩ (.int .i64 0)).setCell ⟨t+1,2,none⟩ (.int .i64 0)).setCell ⟨t+1,3,none⟩ (.int .u8 0)=wf at*;have u0:=hS.ae 0;have u1:=hS.ae 1;have u2:=hS.ae 2;have u3:=hS.ae 3;simp only[List.setIfInBounds_toArray,List.set_cons_zero,List.set_cons_succ,vO,iK,mS]at u0 u1 u2 u3;refine bodyPost_ret (v:=.tuple #[.agg #[.int .i64 0,.int .i64 0,.int .i64 0,.int .u8 0],.bool false]) ?_ rfl ⟨by rw[H2.o];rfl,hS.tail.tail,Ah⟩;unfold results;rw[cH];go_simp
 ·rw[h2];obtain⟨_,A',c',xD,_,_,cm⟩:=HV.o w3 aD.tail.tail;injection xD with gM _ kS;subst gM kS;obtain⟨ba,oa,rfl,Lz⟩:=cm (by omega);have fT:∀z∈ms.map Mi.cells,z.length=4:=by intro z hz;obtain⟨a,_,rfl⟩:=List.mem_map.1 hz;rfl
  have Oa:(ms.map Mi.cells)[i]?=some (ms[i]).cells:=by simp[h1]
  have y0:=Lz (i*4+0) (.int .i64 (ms[i]).at_) (by rw[dS _ fT i 0 _ Oa (by omega)];rfl);have y1:=Lz (i*4+1) (.int .i64 (ms[i]).kind) (by rw[dS _ fT i 1 _ Oa (by omega)];rfl);have y2:=Lz (i*4+2) (.int .i64 (ms[i]).bytes) (by rw[dS _ fT i 2 _ Oa (by omega)];rfl);have y3:=Lz (i*4+3) (bh (ms[i]).fill) (by rw[dS _ fT i 3 _ Oa (by omega)];rfl);rw[fD]at y0;rw[<-gW]at y1 y2 y3;have Zd:ms[i]?=some ms[i]:=bF h1;rw[Zd]at h3;have H3:=aa h3;clear Lz cm fT Oa Zd h2 h3 hH bM cJ;generalize ms[i]=m at*;obtain⟨ma,mk,mb,mf⟩:=m;simp only at y0 y1 y2 y3;have tI:¬((0:Int)+(i:Int)<0):=by omega
  have xC:(0:Int)+(i:Int)=(i:Int):=by omega
  rw[xC];unfold bh at y3;go_wp2_with fail
  have hS:=Holds.set (Holds.set (Holds.set (Holds.set aD 0 (.int .i64 ma)) 1 (.int .i64 mk)) 2 (.int .i64 mb)) 3 (.int .u8 (mf.toNat:Int));have Ah:=(((cf.setCell ⟨t+1,0,none⟩ (.int .i64 ma)).setCell ⟨t+1,1,none⟩ (.int .i64 mk)).setCell ⟨t+1,2,none⟩ (.int .i64 mb)).setCell ⟨t+1,3,none⟩ (.int .u8 (mf.toNat:Int));generalize(((w3.setCell ⟨t+1,0,none⟩ (.int .i64 ma)).setCell ⟨t+1,1,none⟩ (.int .i64 mk)).setCell ⟨t+1,2,none⟩ (.int .i64 mb)).setCell ⟨t+1,3,none⟩ (.int .u8 (mf.toNat:Int))=wf at*;have u0:=hS.ae 0;have u1:=hS.ae 1;have u2:=hS.ae 2;have u3:=hS.ae 3;simp only[List.setIfInBounds_toArray,List.set_cons_zero,List.set_cons_succ,vO,iK,mS]at u0 u1 u2 u3;refine bodyPost_ret (v:=.tuple #[.agg #[.int .i64 ma,.int .i64 mk,.int .i64 mb,.int .u8 (mf.toNat:Int)],.bool true]) ?_ rfl ⟨by rw[H3.o];rfl,hS.tail.tail,Ah⟩;unfold results;rw[cH];go_simp
def Mi.ok(m:Mi):Prop:=1<=m.at_∧m.at_<=1073741824∧(m.kind=1∨m.kind=2)∧0<=m.bytes∧m.bytes<=65536
theorem JP(m:Mi)(w:World)(Fr:HL)(hH:Holds w Fr)(hm:m.ok):
  Calls Tryz.prog 79 #[.agg #[.int .i64 m.at_,.int .i64 m.kind,.int .i64 m.bytes,bh m.fill]] w (cM (.bool true) w Fr):=by
 obtain⟨ma,mk,mb,mf⟩:=m;obtain⟨h1,h2,h3,h4,h5⟩:=hm;simp only at h1 h2 h3 h4 h5⊢;have bM:=hH.alloc (.cells #[.int .i64 ma,.int .i64 mk,.int .i64 mb,bh mf] 87);rcases h3 with rfl|rfl;all_goals
  go_enter func79,ntmps79;go_wp2_with fail
  go_ret;exact⟨rfl,bM.tail,(af.refl w).alloc _⟩
theorem Vs(w:World):Calls Tryz.prog 39 #[.slice none 0 0] w fun e w'=>e=.returned (.bool true)∧w=w':=by
 go_enter func39,ntmps39;go_wp2_with fail
 go_loopw [7] (fun iv wr=>iv=.int .i64 0∧wr=w) (fun _ _=>0)
 case atStart=>exact⟨rfl,rfl⟩
 case round=>
  obtain⟨rfl,rfl⟩:=hrel;go_wp2_with fail
  go_ret;exact⟨rfl,rfl⟩
theorem KA(v:Value)(bs:List Mi)(w:World)(Fr:HL)(hb:L6 w v bs)(hH:Holds w Fr)(kJ:bs.length<=1000000):
  Calls Tryz.prog 40 #[v] w (cB (fun v H=>agH v bs H) w Fr):=by
 have h1:∀y∈(bs.map Mi.cells).flatten,y.oneCell'=true:=by
  intro y hy;obtain⟨c,hc,Xa⟩:=List.mem_flatten.1 hy;obtain⟨x,_,rfl⟩:=List.mem_map.1 hc;simp only[Mi.cells,l6,rL,or_false]at Xa;rcases Xa with rfl|rfl|rfl|rfl<;>rfl
 have Wu:=hb;obtain⟨_,A,c,rfl,_,_,_⟩:=Wu;have HB:=aa hb;have H1:=aa h1;clear h1;cases A with
 |none=>
  obtain⟨_,A,c',hv,ff,gT,h0⟩:=hb;injection hv with gM mg kS;subst gM kS;have hz:bs.length=0:=by
   rcases nG bs.length with h|h
   ·exact h
   ·obtain⟨b,o,h,_⟩:=h0 h;cases h
  obtain rfl:bs=[]:=jW hz;have k1:∀w:World,(binOp .eql 64 (.slice none 0 c) (.slice none 0 0)).run Tryz.prog w=.ok (.bool true) w:=fun w=>Lib.run_eql_slice_nil w _ _ _ _ _ _ _ abV.under;clear h0 hz ff;go_enter func40,ntmps40;go_wp2
  go_ret;exact⟨_,[],rfl,au.nil _ _,hH,af.refl w⟩
 |some a=>
  have k1:∀w:World,(binOp .eql 64 (.slice (some a) bs.length c) (.slice none 0 0)).run Tryz.prog w=.ok (.bool false) w:=fun w=>Lib.run_eql_slice_nil w _ _ _ _ _ _ _ abV.under;clear hb;go_enter func40,ntmps40;go_wp2_with (at_builtin;refine al abV (by rfl) (.tmp 5) (.tmp 6) (by rfl) (by rfl) (by rfl) (au.UB (size:=4) (e:=87) w.heap.size 0 #[] (by rfl) (by simp[maxLen])) ((hH.alloc (.cells #[] 87))) (HB.o.alloc _) H1.o (by simp[maxLen];omega) (by omega) ?_;intro A' c' w' H' ay aD aX)
  go_ret;simp only[fp,jS]at ay;exact⟨_,H',rfl,ay,aD,((af.refl w).alloc _).trans aX⟩
theorem Vt:rP Tryz.prog 92 98 5 48 (.agg #[.slice none 0 0,.int .i64 0,.int .i64 0,.bool false,.bool false]):=rP.mk' (by kernel_rfl) (by kernel_rfl) (by rfl) (by decide)
theorem wG:rP Tryz.prog 95 60 1 24 (.slice none 0 0):=rP.mk' (by kernel_rfl) (by kernel_rfl) (by rfl) (by decide)
structure CB where
 ad:List (List UInt8)
 next:Int
 df:Int
 failed:Bool
 mark:Bool
structure CM where
 P:Nat
 Z:Nat
 blocks:List CB
 ms:List Mi
 on:Bool
 ops:Int
 bZ:Int
 dF:Int
def CM.db(c:CM)(k:Nat)(x:CB):CM:={c with blocks:=c.blocks.set k x}
def CB.ok(x:CB)(P Z:Nat)(ops:Int):Prop:=x.ad.length=P∧(∀p∈x.ad,p.length=Z+28)∧0<=x.next∧x.next<=P∧0<=x.df∧x.df<=ops
def CM.ok(c:CM):Prop:=1<=c.P∧c.P<=8∧128<=c.Z∧c.Z<=256∧1<=c.blocks.length∧c.blocks.length<=32∧c.ms.length<=24∧(∀m∈c.ms,m.ok)∧0<=c.ops∧0<=c.bZ∧c.bZ<=c.ops∧0<=c.dF∧c.dF<=c.ops∧∀x∈c.blocks,x.ok c.P c.Z c.ops
def cbR(c:List Value)(x:CB)(H:HL):Prop:=∃pv,c=[pv,.int .i64 x.next,.int .i64 x.df,.bool x.failed,.bool x.mark]∧iw pv x.ad H
def k6(g cap:Nat)(mv:Value)(c:CM):Obj:=.cells #[.int .i64 (c.blocks.length:Int),.int .i64 (c.P:Int),.int .i64 (c.Z:Int),.slice (some ⟨g,0,none⟩) c.blocks.length cap,mv,.bool c.on,.int .i64 c.ops,.int .i64 c.bZ,.int .i64 c.dF] 94
def ai(b g cap:Nat)(mv:Value)(c:CM)(H:HL):Prop:=
 ∃Hb Hm,eK cbR 98 5 (.slice (some ⟨g,0,none⟩) c.blocks.length cap) c.blocks Hb∧agH mv c.ms Hm∧c.ok∧H=(b,k6 g cap mv c)::(Hb++Hm)
def MB(v:Value)(c:CM)(H:HL):Prop:=∃b g cap mv,v=.pointer (some ⟨b,0,none⟩)∧ai b g cap mv c H
section
variable{b g cap:Nat}{mv:Value}{c:CM}{H F:HL}{w:World}
theorem ai.o7(h:ai b g cap mv c H):c.ok:=by obtain⟨_,_,_,_,h,_⟩:=h;exact h
theorem ai.Bl(h:ai b g cap mv c H):c.blocks.length<=cap∧cap<=maxLen:=by
 obtain⟨_,_,h,_⟩:=h;obtain⟨A,c2,hv,h1,h2⟩:=h.val;injection hv with _ _ hv;subst hv;exact⟨h1,h2⟩
theorem ai.gX(h:ai b g cap mv c H)(hH:Holds w (H++F)):
  w.cell? ⟨b,0,none⟩=some (.int .i64 (c.blocks.length:Int))∧w.cell? ⟨b,1,none⟩=some (.int .i64 (c.P:Int))∧w.cell? ⟨b,2,none⟩=some (.int .i64 (c.Z:Int))∧
  w.cell? ⟨b,3,none⟩=some (.slice (some ⟨g,0,none⟩) c.blocks.length cap)∧w.cell? ⟨b,4,none⟩=some mv∧w.cell? ⟨b,5,none⟩=some (.bool c.on)∧w.cell? ⟨b,6,none⟩=some (.int .i64 c.ops)∧
  w.cell? ⟨b,7,none⟩=some (.int .i64 c.bZ)∧w.cell? ⟨b,8,none⟩=some (.int .i64 c.dF)∧
  w.frozen? ⟨b,5,none⟩=false∧w.frozen? ⟨b,6,none⟩=false∧w.frozen? ⟨b,7,none⟩=false∧w.frozen? ⟨b,8,none⟩=false:=by
 obtain⟨Hb,Hm,_,_,_,rfl⟩:=h;unfold k6 at hH;exact⟨by simpa using hH.ae 0,by simpa using hH.ae 1,by simpa using hH.ae 2,by simpa using hH.ae 3,by simpa using hH.ae 4,by simpa using hH.ae 5,by simpa using hH.ae 6,by simpa using hH.ae 7,by simpa using hH.ae 8,
  hH.ah 5,hH.ah 6,hH.ah 7,hH.ah 8⟩
theorem ai.kT(h:ai b g cap mv c H)(hH:Holds w (H++F)):L6 w mv c.ms:=by
 obtain⟨Hb,Hm,_,hm,_,rfl⟩:=h;exact au.reads hm (Fr:=Hb++((b,k6 g cap mv c)::F)) (hH.p)
theorem ai.UF(h:ai b g cap mv c H)(hH:Holds w (H++F))(u:Bool):∃H',ai b g cap mv {c with on:=u} H'∧Holds (w.setCell ⟨b,5,none⟩ (.bool u)) (H'++F):=by
 obtain⟨Hb,Hm,h1,h2,h3,rfl⟩:=h;refine⟨_,⟨Hb,Hm,h1,h2,h3,rfl⟩,?_⟩;have:=Holds.set hH 5 (.bool u);simpa[k6]using this
theorem ai.adq(h:ai b g cap mv c H)(hH:Holds w (H++F)):∃H',ai b g cap mv {c with ops:=c.ops+1} H'∧Holds (w.setCell ⟨b,6,none⟩ (.int .i64 (c.ops+1))) (H'++F):=by
 obtain⟨Hb,Hm,h1,h2,h3,rfl⟩:=h;obtain⟨a1,a2,a3,a4,a5,a6,a7,a8,a9,b1,b2,b3,b4,b5⟩:=h3;refine⟨_,⟨Hb,Hm,h1,h2,⟨a1,a2,a3,a4,a5,a6,a7,a8,by show 0<=c.ops+1;omega,b1,by show c.bZ<=c.ops+1;omega,b3,by show c.dF<=c.ops+1;omega,fun x hx=>?_⟩,rfl⟩,?_⟩
 ·obtain⟨e1,e2,e3,e4,e5,e6⟩:=b5 x hx;exact⟨e1,e2,e3,e4,e5,by show x.df<=c.ops+1;omega⟩
 ·have:=Holds.set hH 6 (.int .i64 (c.ops+1));simpa[k6]using this
theorem ai.QB(h:ai b g cap mv c H)(hH:Holds w (H++F))(u:Int)(h0:0<=u)(h1:u<=c.ops):∃H',ai b g cap mv {c with bZ:=u} H'∧Holds (w.setCell ⟨b,7,none⟩ (.int .i64 u)) (H'++F):=by
 obtain⟨Hb,Hm,DH,h2,h3,rfl⟩:=h;obtain⟨a1,a2,a3,a4,a5,a6,a7,a8,a9,b1,b2,b3,b4,b5⟩:=h3;refine⟨_,⟨Hb,Hm,DH,h2,⟨a1,a2,a3,a4,a5,a6,a7,a8,a9,h0,h1,b3,b4,b5⟩,rfl⟩,?_⟩;have:=Holds.set hH 7 (.int .i64 u);simpa[k6]using this
theorem ai.KC(h:ai b g cap mv c H)(hH:Holds w (H++F))(u:Int)(h0:0<=u)(h1:u<=c.ops):∃H',ai b g cap mv {c with dF:=u} H'∧Holds (w.setCell ⟨b,8,none⟩ (.int .i64 u)) (H'++F):=by
 obtain⟨Hb,Hm,DH,h2,h3,rfl⟩:=h;obtain⟨a1,a2,a3,a4,a5,a6,a7,a8,a9,b1,b2,b3,b4,b5⟩:=h3;refine⟨_,⟨Hb,Hm,DH,h2,⟨a1,a2,a3,a4,a5,a6,a7,a8,a9,b1,b2,h0,h1,b5⟩,rfl⟩,?_⟩;have:=Holds.set hH 8 (.int .i64 u);simpa[k6]using this
structure aiV(b g cap:Nat)(mv:Value)(c:CM)(H:HL)(k:Nat)(x:CB)(pv:Value):Prop where
 bd:k<c.blocks.length
 ok:x.ok c.P c.Z c.ops
 cells:∀(w:World) (F:HL),Holds w (H++F)->w.cell? ⟨g,k*5,none⟩=some pv∧w.cell? ⟨g,k*5+1,none⟩=some (.int .i64 x.next)∧w.cell? ⟨g,k*5+2,none⟩=some (.int .i64 x.df)∧
  w.cell? ⟨g,k*5+3,none⟩=some (.bool x.failed)∧w.cell? ⟨g,k*5+4,none⟩=some (.bool x.mark)∧w.frozen? ⟨g,k*5,none⟩=false∧w.frozen? ⟨g,k*5+1,none⟩=false∧w.frozen? ⟨g,k*5+2,none⟩=false∧w.frozen? ⟨g,k*5+3,none⟩=false∧w.frozen? ⟨g,k*5+4,none⟩=false
 XL:∀(w:World) (F:HL) (u:Int),Holds w (H++F)->0<=u->u<=c.P->∃H',ai b g cap mv (c.db k {x with next:=u}) H'∧Holds (w.setCell ⟨g,k*5+1,none⟩ (.int .i64 u)) (H'++F)
 agI:∀(w:World) (F:HL) (u:Int),Holds w (H++F)->0<=u->u<=c.ops->∃H',ai b g cap mv (c.db k {x with df:=u}) H'∧Holds (w.setCell ⟨g,k*5+2,none⟩ (.int .i64 u)) (H'++F)
 agJ:∀(w:World) (F:HL) (u:Bool),Holds w (H++F)->∃H',ai b g cap mv (c.db k {x with failed:=u}) H'∧Holds (w.setCell ⟨g,k*5+3,none⟩ (.bool u)) (H'++F)
 P5:∀(w:World) (F:HL) (u:Bool),Holds w (H++F)->∃H',ai b g cap mv (c.db k {x with mark:=u}) H'∧Holds (w.setCell ⟨g,k*5+4,none⟩ (.bool u)) (H'++F)
 am3:∀(w:World) (F:HL) (PF:Value) (ps:List (List UInt8)) (Hp:HL),Holds w (H++(Hp++F))->iw PF ps Hp->ps.length=c.P->(∀p∈ps,p.length=c.Z+28)->∃H',ai b g cap mv (c.db k {x with ad:=ps}) H'∧Holds (w.setCell ⟨g,k*5,none⟩ PF) (H'++F)
 ad:∃Hp Hr,iw pv x.ad Hp∧(∀(w:World) (F:HL),Holds w (H++F)->Holds w (Hp++(Hr++F)))∧
  ∀(w:World) (F:HL) (ps:List (List UInt8)) (rR:HL),iw pv ps rR->ps.length=c.P->(∀p∈ps,p.length=c.Z+28)->Holds w (rR++(Hr++F))->∃H',ai b g cap mv (c.db k {x with ad:=ps}) H'∧Holds w (H'++F)
theorem ai.open_(h:ai b g cap mv c H){k:Nat}{x:CB}(hx:c.blocks[k]?=some x):∃pv,aiV b g cap mv c H k x pv:=by
 obtain⟨Hb,Hm,h1,h2,h3,rfl⟩:=h;obtain⟨g',L7,cs,Hi,Hr,hv,ff,gT,hk,bm,⟨pv,rfl,xN⟩,ae,fg,rX,bz⟩:=h1.sC hx;injection hv with hv _ hvc;injection hv with hv;injection hv with hv;subst hv hvc;have o9:x.ok c.P c.Z c.ops:=h3.2.2.2.2.2.2.2.2.2.2.2.2.2 x (gD hx);have aaL:∀(w:World) (F:HL),Holds w (((b,k6 g cap mv c)::(Hb++Hm))++F)->Holds w (Hi++(Hr++((b,k6 g cap mv c)::(Hm++F)))):=fun w F hH=>fg w _ (hH.p);have yU:∀(x':CB) (H':HL),x'.ok c.P c.Z c.ops->eK cbR 98 5 (.slice (some ⟨g,0,none⟩) c.blocks.length cap) (c.blocks.set k x') H'->ai b g cap mv (c.db k x') ((b,k6 g cap mv c)::(H'++Hm)):=by
  intro x' H' qN hr;obtain⟨a1,a2,a3,a4,a5,a6,a7,a8,a9,b1,b2,b3,b4,b5⟩:=h3;refine⟨H',Hm,?_,h2,⟨a1,a2,a3,a4,?_,?_,a7,a8,a9,b1,b2,b3,b4,?_⟩,?_⟩
  ·simpa[CM.db]using hr
  ·simpa[CM.db]using a5
  ·simpa[CM.db]using a6
  ·intro z hz;rcases vM hz with h|h
   ·exact b5 z h
   ·rw[h];exact qN
  ·simp[k6,CM.db]
 have dN:∀(w:World) (F H':HL),Holds w (H'++((b,k6 g cap mv c)::(Hm++F)))->Holds w (((b,k6 g cap mv c)::(H'++Hm))++F):=fun w F H' hH=>hH.p;obtain⟨o1,o2,o3,o4,o5,o6⟩:=o9;refine⟨pv,⟨hk,⟨o1,o2,o3,o4,o5,o6⟩,?_,?_,?_,?_,?_,?_,?_⟩⟩
 ·intro w F hH;have a:=(ae w _ (aaL w F hH).right).2;have e0:=a 0 (by omega);have e1:=a 1 (by omega);have e2:=a 2 (by omega);have e3:=a 3 (by omega);have e4:=a 4 (by omega);exact⟨by simpa using e0.1,by simpa using e1.1,by simpa using e2.1,by simpa using e3.1,by simpa using e4.1,by simpa using e0.2,e1.2,e2.2,e3.2,e4.2⟩
 ·intro w F u hH hu1 hu2;obtain⟨H',a1,a2⟩:=bz w _ 1 (.int .i64 u) {x with next:=u} Hi (by omega) ⟨pv,rfl,xN⟩ (aaL w F hH);exact⟨_,yU _ H' ⟨o1,o2,hu1,hu2,o5,o6⟩ a1,dN _ F H' a2⟩
 ·intro w F u hH hu1 hu2;obtain⟨H',a1,a2⟩:=bz w _ 2 (.int .i64 u) {x with df:=u} Hi (by omega) ⟨pv,rfl,xN⟩ (aaL w F hH);exact⟨_,yU _ H' ⟨o1,o2,o3,o4,hu1,hu2⟩ a1,dN _ F H' a2⟩
 ·intro w F u hH;obtain⟨H',a1,a2⟩:=bz w _ 3 (.bool u) {x with failed:=u} Hi (by omega) ⟨pv,rfl,xN⟩ (aaL w F hH);exact⟨_,yU _ H' ⟨o1,o2,o3,o4,o5,o6⟩ a1,dN _ F H' a2⟩
 ·intro w F u hH;obtain⟨H',a1,a2⟩:=bz w _ 4 (.bool u) {x with mark:=u} Hi (by omega) ⟨pv,rfl,xN⟩ (aaL w F hH);exact⟨_,yU _ H' ⟨o1,o2,o3,o4,o5,o6⟩ a1,dN _ F H' a2⟩
 ·intro w F PF ps Hp hH hp hl hz;have hr:=aaL w (Hp++F) hH;obtain⟨H',a1,a2⟩:=bz w ((b,k6 g cap mv c)::(Hm++F)) 0 PF {x with ad:=ps} Hp (by omega) ⟨PF,rfl,hp⟩ (hr.right.p);exact⟨_,yU _ H' ⟨hl,hz,o3,o4,o5,o6⟩ a1,dN _ F H' (by simpa using a2)⟩
 ·refine⟨Hi,Hr++((b,k6 g cap mv c)::Hm),xN,fun w F hH=>by have:=aaL w F hH;simpa using this,fun w F ps rR hp hl hz hH=>?_⟩;obtain⟨H',a1,a2⟩:=rX w ((b,k6 g cap mv c)::(Hm++F)) {x with ad:=ps} rR ⟨pv,rfl,hp⟩ (by simpa using hH);exact⟨_,yU _ H' ⟨hl,hz,o3,o4,o5,o6⟩ a1,dN _ F H' a2⟩
end
theorem kP(c:Int)(w:World)(Fr:HL)(hc:c≠0)(hH:Holds w Fr):Calls Tryz.prog 144 #[.int .i64 c] w (pR c w Fr):=by
 have DE:=aa hc;clear hc;go_enter func144,ntmps144;go_wp2_with fail
 go_ret;exact⟨_,_,rfl,.inr ⟨DE.o,_,_,rfl,rfl⟩,hH.alloc _,(af.refl w).alloc _⟩
theorem gI(n lo hi:Int)(w:World):Calls Tryz.prog 38 #[.int .i64 n,.int .i64 lo,.int .i64 hi] w fun e w'=>e=.returned (.bool (decide (lo<=n∧n<=hi)))∧w=w':=by
 by_cases h1:lo<=n
 ·by_cases h2:n<=hi
  ·go_enter func38,ntmps38;go_wp2_with fail
   go_ret;exact⟨ue (by simp[h1,h2]),rfl⟩
  ·go_enter func38,ntmps38;go_wp2_with fail
   go_ret;exact⟨ue (by simp;omega),rfl⟩
 ·go_enter func38,ntmps38;go_wp2_with fail
  go_ret;exact⟨ue (by simp;omega),rfl⟩
def CM.there(c:CM)(k:Int):Bool:=decide (0<=k∧k<(c.blocks.length:Int))
def OM(b g cap:Nat)(mv:Value)(c':CM)(code:Int)(w:World)(Fr:HL)(e:Ending)(w':World):Prop:=
 ∃ve H He,e=.returned ve∧bJ ve code He∧ai b g cap mv c' H∧Holds w' (H++(He++Fr))∧af w w'
section
variable{b g cap:Nat}{mv:Value}{c:CM}{H Fr:HL}{w:World}
theorem kQ(k:Int)(h:ai b g cap mv c H)(hH:Holds w (H++Fr)):Calls Tryz.prog 141 #[.pointer (some ⟨b,0,none⟩),.int .i64 k] w fun e w'=>e=.returned (.bool (c.there k))∧w=w':=by
 have c3:=(h.gX hH).2.2.2.1;have og:=h.Bl;unfold maxLen at og;have cj:=h.o7;have h32:=cj.2.2.2.2.2.1;have Zf:=cj.2.2.2.2.1;clear h cj;have HB:=aa (fun w=>gI k 0 ((c.blocks.length:Int)-1) w);have HE:=aa (show decide (0<=k∧k<=(c.blocks.length:Int)-1)=c.there k by unfold CM.there;congr 1;apply propext;omega);generalize c.blocks.length=n at*;go_enter func141,ntmps141;go_wp2_with fail
 refine(HB.o w).mono ?_;rintro e wx⟨rfl,rfl⟩;rw[HE.o];go_wp2_with fail
 go_ret;exact⟨rfl,rfl⟩
theorem Vu(h:ai b g cap mv c H)(hH:Holds w (H++Fr)):Calls Tryz.prog 81 #[.pointer (some ⟨b,0,none⟩)] w fun e w'=>e=.returned (.int .i64 ((c.Z:Int)+28))∧w=w':=by
 have c2:=(h.gX hH).2.2.1;have hz:=h.o7.2.2.2.1;clear h;go_enter func81,ntmps81;go_wp2_with fail
 go_ret;exact⟨rfl,rfl⟩
theorem nX(h:ai b g cap mv c H)(hH:Holds w (H++Fr)):Calls Tryz.prog 143 #[.pointer (some ⟨b,0,none⟩)] w (OM b g cap mv {c with on:=false} 4 w Fr):=by
 obtain⟨_,_,_,_,_,c5,_,_,_,f5,_⟩:=h.gX hH;obtain⟨H',h',gK⟩:=h.UF hH false;have HC:=aa h';have HH:=aa gK;clear h h' gK;go_enter func143,ntmps143;go_wp2_with fail
 refine(kP 4 _ (H'++Fr) (by omega) HH.o).mono ?_;rintro e w1⟨ve,He,rfl,he,ax,aK⟩;have HE:=aa he;clear he;go_wp2_with fail
 go_ret;exact⟨ve,H',He,rfl,HE.o,HC.o,ax.swap,((af.refl w).setCell _ _).trans aK⟩
theorem Holds.ON{w:World}{p:Nat×Obj}{A R:HL}(h:Holds w (p::(A++R))):Holds w (A++(p::R)):=h.p
theorem Holds.nz{w:World}{t:Nat}{a0 a1 a2 a3:Value}{T:TypeId}{F:HL}(h:Holds w ((t,.cells #[a0,a1,a2,a3] T)::F))(v0 v1 v2 v3:Value):
  Holds ((((w.setCell ⟨t,0,none⟩ v0).setCell ⟨t,1,none⟩ v1).setCell ⟨t,2,none⟩ v2).setCell ⟨t,3,none⟩ v3) ((t,.cells #[v0,v1,v2,v3] T)::F):=
 Holds.set (Holds.set (Holds.set (Holds.set h 0 v0) 1 v1) 2 v2) 3 v3
theorem af.nz{a w:World}(h:af a w)(t:Nat)(v0 v1 v2 v3:Value):af a ((((w.setCell ⟨t,0,none⟩ v0).setCell ⟨t,1,none⟩ v1).setCell ⟨t,2,none⟩ v2).setCell ⟨t,3,none⟩ v3):=(((h.setCell _ _).setCell _ _).setCell _ _).setCell _ _
theorem Holds.hJ{w:World}{t:Nat}{a0 a1 a2 a3:Value}{T:TypeId}{F:HL}(h:Holds w ((t,.cells #[a0,a1,a2,a3] T)::F)):
  w.cell? ⟨t,0,none⟩=some a0∧w.cell? ⟨t,1,none⟩=some a1∧w.cell? ⟨t,2,none⟩=some a2∧w.cell? ⟨t,3,none⟩=some a3∧w.frozen? ⟨t,0,none⟩=false∧w.frozen? ⟨t,1,none⟩=false∧w.frozen? ⟨t,2,none⟩=false∧w.frozen? ⟨t,3,none⟩=false:=
 ⟨by simpa using h.ae 0,by simpa using h.ae 1,by simpa using h.ae 2,by simpa using h.ae 3,h.ah 0,h.ah 1,h.ah 2,h.ah 3⟩
def CM.mi(c:CM):Mi:=(zS (c.ops+1) c.ms).getD Mi.zero
def CM.jE(c:CM)(good:Bool):CM×Mi×Int:=if c.on=false then(c,Mi.zero,4)else if good=false then(c,Mi.zero,2)else({c with ops:=c.ops+1},c.mi,0)
def adr(b g cap:Nat)(mv:Value)(r:CM×Mi×Int)(w:World)(Fr:HL)(e:Ending)(w':World):Prop:=
 ∃ve H He G,e=.returned (.tuple #[r.2.1.agg,ve])∧bJ ve r.2.2 He∧ai b g cap mv r.1 H∧Holds w' (H++(He++(G++Fr)))∧af w w'
theorem rm(good:Bool)(h:ai b g cap mv c H)(hH:Holds w (H++Fr))(fI:c.ops<=1000000000000):Calls Tryz.prog 140 #[.pointer (some ⟨b,0,none⟩),.bool good] w (adr b g cap mv (c.jE good) w Fr):=by
 have HI:=aa h;have cH:Tryz.f140.results=#[ResultVar.cell 4 87,ResultVar.tmp 5]:=by rfl
 have bM:=hH.alloc (.cells #[.int .i64 0,.int .i64 0,.int .i64 0,.int .u8 0] 87);have cJ:=(af.refl w).alloc (.cells #[.int .i64 0,.int .i64 0,.int .i64 0,.int .u8 0] 87);have Dl:=aa (fun(wx:World) (F:HL) (hx:Holds wx (H++F))=>h.gX hx);obtain⟨c0,_,_,_,c4,c5,c6,_,_,f5,f6,_⟩:=h.gX bM.tail;have hk:=h.o7.2.2.2.2.2.2.2.2.1;unfold CM.jE;rcases(Bool.eq_false_or_eq_true c.on).symm with fi|fi
 ·rw[if_pos fi];rw[fi]at c5;clear fi;clear h hH;go_enter func140,ntmps140;go_wp2_with fail
  refine(kP 4 _ _ (by omega) bM).mono ?_;rintro e w1⟨ve,He,rfl,he,ax,aK⟩;have HE:=aa he;clear he;have aB:Holds w1 ((w.heap.size,.cells #[.int .i64 0,.int .i64 0,.int .i64 0,.int .u8 0] 87)::(H++(He++([]++Fr)))):=ax.p;have gY:=cJ.trans aK;generalize w.heap.size=t at*;obtain⟨z0,z1,z2,z3,g0,g1,g2,g3⟩:=aB.hJ;clear bM ax c0 c4 c5 c6 f5 f6;go_wp2_with fail
  have hS:=aB.nz (.int .i64 0) (.int .i64 0) (.int .i64 0) (.int .u8 0);have Ah:=gY.nz t (.int .i64 0) (.int .i64 0) (.int .i64 0) (.int .u8 0);generalize(((w1.setCell ⟨t,0,none⟩ (.int .i64 0)).setCell ⟨t,1,none⟩ (.int .i64 0)).setCell ⟨t,2,none⟩ (.int .i64 0)).setCell ⟨t,3,none⟩ (.int .u8 0)=wf at*;obtain⟨u0,u1,u2,u3,_⟩:=hS.hJ;refine bodyPost_ret (v:=.tuple #[.agg #[.int .i64 0,.int .i64 0,.int .i64 0,.int .u8 0],ve]) ?_ rfl ⟨ve,H,He,[],rfl,HE.o,HI.o,hS.tail,Ah⟩;unfold results;rw[cH];go_simp
 ·rw[if_neg (by rw[fi];simp)];rw[fi]at c5;clear fi;cases good
  ·rw[if_pos rfl];clear h hH;go_enter func140,ntmps140;go_wp2_with fail
   refine(kP 2 _ _ (by omega) bM).mono ?_;rintro e w1⟨ve,He,rfl,he,ax,aK⟩;have HE:=aa he;clear he;have aB:Holds w1 ((w.heap.size,.cells #[.int .i64 0,.int .i64 0,.int .i64 0,.int .u8 0] 87)::(H++(He++([]++Fr)))):=ax.p;have gY:=cJ.trans aK;generalize w.heap.size=t at*;obtain⟨z0,z1,z2,z3,g0,g1,g2,g3⟩:=aB.hJ;clear bM ax c0 c4 c5 c6 f5 f6;go_wp2_with fail
   have hS:=aB.nz (.int .i64 0) (.int .i64 0) (.int .i64 0) (.int .u8 0);have Ah:=gY.nz t (.int .i64 0) (.int .i64 0) (.int .i64 0) (.int .u8 0);generalize(((w1.setCell ⟨t,0,none⟩ (.int .i64 0)).setCell ⟨t,1,none⟩ (.int .i64 0)).setCell ⟨t,2,none⟩ (.int .i64 0)).setCell ⟨t,3,none⟩ (.int .u8 0)=wf at*;obtain⟨u0,u1,u2,u3,_⟩:=hS.hJ;refine bodyPost_ret (v:=.tuple #[.agg #[.int .i64 0,.int .i64 0,.int .i64 0,.int .u8 0],ve]) ?_ rfl ⟨ve,H,He,[],rfl,HE.o,HI.o,hS.tail,Ah⟩;unfold results;rw[cH];go_simp
  ·rw[if_neg (by simp)];obtain⟨H',h',gK⟩:=h.adq (F:=(w.heap.size,.cells #[.int .i64 0,.int .i64 0,.int .i64 0,.int .u8 0] 87)::Fr) (bM.p);have HC:=aa h';have HH:=aa gK;have xE:=aa (show(zS (c.ops+1) c.ms).getD Mi.zero=c.mi from rfl);clear h hH h' gK;go_enter func140,ntmps140;go_upto_region 8 with fail
   have eh:=HH.o;have gf:=cJ.setCell ⟨b,6,none⟩ (.int .i64 (c.ops+1));clear HH cJ bM c0 c4 c5 c6 f5 f6;generalize(w.alloc (.cells #[.int .i64 0,.int .i64 0,.int .i64 0,.int .u8 0] 87)).setCell ⟨b,6,none⟩ (.int .i64 (c.ops+1))=wA at*;generalize w.heap.size=t at*;obtain⟨⟨ma,mk,mb,mf⟩,hm⟩:∃m,m=c.mi:=⟨_,rfl⟩;have HM:=aa (show(zS (c.ops+1) c.ms).getD Mi.zero=⟨ma,mk,mb,mf⟩from hm.symm);have xE:=aa hm;clear hm;have HS:=aa (fun(wx:World) (F:HL) (hx:Holds wx (H'++F))=>aS (HC.o.gX hx).2.2.2.2.1 (HC.o.gX hx).2.2.2.2.2.2.1);refine nR (fun wx=>wx.cell? ⟨b,4,none⟩=some mv∧wx.cell? ⟨b,6,none⟩=some (.int .i64 (c.ops+1))) 13 (by kernel_rfl) (fun w1 hd=>HS.o _ _ (eh.dr hd)) (fun w1 hd hs=>?_);have hC:=eh.dr hd;have hG:=gf.trans (af.dr hd);clear hd eh gf;obtain⟨wc,rfl⟩:∃x,x=w1:=⟨_,rfl⟩;refine Yv 0 ?_;refine Yv 1 ?_;refine Yv 2 ?_;refine Yu 3 ?_;simp only[pt,sA,sS,sZ];refine Yv 4 ?_;refine Yv 5 ?_;refine Yv 6 ?_;refine Yu 7 ?_;simp only[pt,sA,sS,sZ];refine UE 8 12 rfl rfl (by kernel_rfl) (fun K hK=>?_) (fun K hK=>?_);have⟨x1,x2⟩:=hs;go_simp;have Ga:=O4 (c.ops+1) mv c.ms wc _ (fun wx hx=>HC.o.kT hx) hC;rw[HM.o]at Ga;simp only[Mi.agg,bh]at Ga;refine Ga.mono ?_;clear Ga;rintro e wq ⟨rfl,hC8,gg8⟩;clear x1 x2;refine hK _ _ (HS.o _ _ hC8) (fun _=>?_);clear hK K hs;rename_i hs;have cY:=hG.trans gg8;clear hC hG gg8;have hC:=hC8;have hG:=cY;clear hC8 cY;clear wc;obtain⟨wc,rfl⟩:∃x,x=wq:=⟨_,rfl⟩;refine Yv 9 ?_;refine Yv 10 ?_;refine Yv 11 ?_;simp only[pt,sA,sS,sZ];refine Ym 12 fun K hK=>?_;have⟨x1,x2⟩:=hs;go_simp;clear x1 x2;refine hK _ _ (HS.o _ _ (Holds.ON (hC.alloc _))) (fun _=>?_);clear hK K hs;rename_i hs;have Wv:=Holds.ON (hC.alloc (.cells #[.int .i64 0,.int .i64 0,.int .i64 0,.int .u8 0] 87));have cY:=hG.alloc (.cells #[.int .i64 0,.int .i64 0,.int .i64 0,.int .u8 0] 87);clear hC hG;generalize wc.alloc (.cells #[.int .i64 0,.int .i64 0,.int .i64 0,.int .u8 0] 87)=wq at*;generalize wc.heap.size=g12 at*;clear wc;have hC:=Wv;have hG:=cY;clear Wv cY;obtain⟨wc,rfl⟩:∃x,x=wq:=⟨_,rfl⟩;refine Yl 13 fun K hK=>?_;have⟨x1,x2⟩:=hs;have hD:Holds wc ((g12,.cells #[.int .i64 0,.int .i64 0,.int .i64 0,.int .u8 0] 87)::((t,.cells #[.int .i64 0,.int .i64 0,.int .i64 0,.int .u8 0] 87)::(H'++Fr))):=hC.p;obtain⟨z0,z1,z2,z3,g0,g1,g2,g3⟩:=hD.hJ;go_simp;clear z0 z1 z2 z3 g0 g1 g2 g3 hC;clear x1 x2 hs;refine hK _ _ ?_;clear hK K;refine Yl 14 fun K hK=>?_;go_simp;refine hK _ _ ?_;clear hK K;refine Ye ?_;rotate_left;have⟨x1,x2⟩:=hs;go_simp;clear x1 x2;refine hK _ _ (HS.o _ _ (Holds.ON (hC.alloc _))) (fun _=>?_);clear hK K hs;rename_i hs;have Wv:=Holds.ON (hC.alloc (.cells #[.int .i64 0,.int .i64 0,.int .i64 0,.int .u8 0] 87));have cY:=hG.alloc (.cells #[.int .i64 0,.int .i64 0,.int .i64 0,.int .u8 0] 87);clear hC hG;generalize wc.alloc (.cells #[.int .i64 0,.int .i64 0,.int .i64 0,.int .u8 0] 87)=wq at*;generalize wc.heap.size=g12 at*;clear wc;have hC:=Wv;have hG:=cY;clear Wv cY;obtain⟨wc,rfl⟩:∃x,x=wq:=⟨_,rfl⟩;refine Ym 8 fun K hK=>?_;have⟨x1,x2⟩:=hs;go_simp;have Ga:=O4 (c.ops+1) mv c.ms wc _ (fun wx hx=>HC.o.kT hx) hC;rw[HM.o]at Ga;simp only[Mi.agg,bh]at Ga;refine Ga.mono ?_;clear Ga;rintro e wq ⟨rfl,hC8,gg8⟩;clear x1 x2;refine hK _ _ (HS.o _ _ hC8) (fun _=>?_);clear hK K hs;rename_i hs;have cY:=hG.trans gg8;clear hC hG gg8;have hC:=hC8;have hG:=cY;clear hC8 cY;clear wc;obtain⟨wc,rfl⟩:∃x,x=wq:=⟨_,rfl⟩;refine Yv 9 ?_;refine Yv 10 ?_;refine Yv 11 ?_;simp only[pt,sA,sS,sZ];refine Yl 13 fun K hK=>?_;have⟨x1,x2⟩:=hs;have hD:Holds wc ((g12,.cells #[.int .i64 0,.int .i64 0,.int .i64 0,.int .u8 0] 87)::((t,.cells #[.int .i64 0,.int .i64 0,.int .i64 0,.int .u8 0] 87)::(H'++Fr))):=hC.p;obtain⟨z0,z1,z2,z3,g0,g1,g2,g3⟩:=hD.hJ;go_simp;clear z0 z1 z2 z3 g0 g1 g2 g3 hC;clear x1 x2 hs;refine hK _ _ ?_;clear hK K;refine Yl 14 fun K hK=>?_;go_simp;refine hK _ _ ?_;clear hK K;refine Ye ?_;rotate_left;all_goals
    have hE:=hD.nz (.int .i64 ma) (.int .i64 mk) (.int .i64 mb) (.int .u8 (mf.toNat:Int));have LA:=hG.nz g12 (.int .i64 ma) (.int .i64 mk) (.int .i64 mb) (.int .u8 (mf.toNat:Int));generalize(((wc.setCell ⟨g12,0,none⟩ (.int .i64 ma)).setCell ⟨g12,1,none⟩ (.int .i64 mk)).setCell ⟨g12,2,none⟩ (.int .i64 mb)).setCell ⟨g12,3,none⟩ (.int .u8 (mf.toNat:Int))=wb at*;obtain⟨z0,z1,z2,z3,_⟩:=hE.hJ;have hE2:Holds wb ((t,.cells #[.int .i64 0,.int .i64 0,.int .i64 0,.int .u8 0] 87)::(H'++([]++([(g12,.cells #[.int .i64 ma,.int .i64 mk,.int .i64 mb,.int .u8 (mf.toNat:Int)] 87)]++Fr)))):=hE.p;obtain⟨v0,v1,v2,v3,g0,g1,g2,g3⟩:=hE2.hJ;clear hD hG hE;go_wp2_with fail
    have hS:=hE2.nz (.int .i64 ma) (.int .i64 mk) (.int .i64 mb) (.int .u8 (mf.toNat:Int));have Ah:=LA.nz t (.int .i64 ma) (.int .i64 mk) (.int .i64 mb) (.int .u8 (mf.toNat:Int));generalize(((wb.setCell ⟨t,0,none⟩ (.int .i64 ma)).setCell ⟨t,1,none⟩ (.int .i64 mk)).setCell ⟨t,2,none⟩ (.int .i64 mb)).setCell ⟨t,3,none⟩ (.int .u8 (mf.toNat:Int))=wf at*;obtain⟨u0,u1,u2,u3,_⟩:=hS.hJ;refine bodyPost_ret (v:=.tuple #[.agg #[.int .i64 ma,.int .i64 mk,.int .i64 mb,.int .u8 (mf.toNat:Int)],.nilIface]) ?_ rfl ⟨.nilIface,H',[],_,by rw[<-xE.o];rfl,bJ.none,HC.o,hS.tail,Ah⟩;unfold results;rw[cH];go_simp
def CM.ord(c:CM)(m:Mi)(good:Bool):CM×Int:=if good=true then(c,0)else if m.kind=2 then({c with bZ:=c.bZ+1,on:=false},4)else({c with bZ:=c.bZ+1},6)
theorem rD(ma mk mb:Int)(mf:UInt8)(good:Bool)(h:ai b g cap mv c H)(hH:Holds w (H++Fr))(fI:c.ops<=1000000000000)(hmu:good=false->c.bZ+1<=c.ops):
  Calls Tryz.prog 142 #[.pointer (some ⟨b,0,none⟩),.agg #[.int .i64 ma,.int .i64 mk,.int .i64 mb,.int .u8 (mf.toNat:Int)],.bool good] w (fun e w'=>∃G,OM b g cap mv (c.ord ⟨ma,mk,mb,mf⟩ good).1 (c.ord ⟨ma,mk,mb,mf⟩ good).2 w (G++Fr) e w'):=by
 have HI:=aa h;have bM:=hH.alloc (.cells #[.int .i64 ma,.int .i64 mk,.int .i64 mb,.int .u8 (mf.toNat:Int)] 87);have cJ:=(af.refl w).alloc (.cells #[.int .i64 ma,.int .i64 mk,.int .i64 mb,.int .u8 (mf.toNat:Int)] 87);have dZ:Holds (w.alloc (.cells #[.int .i64 ma,.int .i64 mk,.int .i64 mb,.int .u8 (mf.toNat:Int)] 87)) (H++([(w.heap.size,.cells #[.int .i64 ma,.int .i64 mk,.int .i64 mb,.int .u8 (mf.toNat:Int)] 87)]++Fr)):=bM.p;have hm0:=h.o7.2.2.2.2.2.2.2.2.2.1;obtain⟨_,_,_,_,_,_,_,c7,_,_,_,f7,_⟩:=h.gX dZ;obtain⟨z0,z1,z2,z3,_⟩:=bM.hJ;cases good
 ·have hmu:=hmu rfl;obtain⟨H',h',gK⟩:=h.QB dZ (c.bZ+1) (by omega) hmu;have HC:=aa h';have HH:=aa gK;clear h h' gK;by_cases hk:mk=2
  ·have e1:(mk==2)=true:=by simp[hk]
   have hr:c.ord ⟨ma,mk,mb,mf⟩ false=({c with bZ:=c.bZ+1,on:=false},4):=by unfold CM.ord;rw[if_neg (by simp),if_pos hk]
   rw[hr];clear hk hr;go_enter func142,ntmps142;go_wp2_with fail
   refine(nX HC.o HH.o).mono ?_;rintro e w1⟨ve,H1,He,rfl,he,ff,ax,aK⟩;have HE:=aa he;have sc:=aa ff;clear he ff;go_wp2_with fail
   go_ret;exact⟨_,ve,H1,He,rfl,HE.o,sc.o,ax,(cJ.setCell _ _).trans aK⟩
  ·have e1:(mk==2)=false:=by simpa using hk
   have hr:c.ord ⟨ma,mk,mb,mf⟩ false=({c with bZ:=c.bZ+1},6):=by unfold CM.ord;rw[if_neg (by simp),if_neg hk]
   rw[hr];clear hk hr;go_enter func142,ntmps142;go_wp2_with fail
   refine(kP 6 _ _ (by omega) HH.o).mono ?_;rintro e w1⟨ve,He,rfl,he,ax,aK⟩;have HE:=aa he;clear he;go_wp2_with fail
   go_ret;exact⟨_,ve,H',He,rfl,HE.o,HC.o,ax.swap,(cJ.setCell _ _).trans aK⟩
 ·have hr:c.ord ⟨ma,mk,mb,mf⟩ true=(c,0):=rfl;rw[hr];clear h hmu hr;go_enter func142,ntmps142;go_wp2_with fail
  go_ret;exact⟨[(w.heap.size,.cells #[.int .i64 ma,.int .i64 mk,.int .i64 mb,.int .u8 (mf.toNat:Int)] 87)],.nilIface,H,[],rfl,bJ.none,HI.o,dZ,cJ⟩
theorem wg(h:ai b g cap mv c H)(hH:Holds w (H++Fr)):Calls Tryz.prog 36 #[.pointer (some ⟨b,0,none⟩)] w fun e w'=>e=.returned (.bool c.on)∧w=w':=by
 have a:=h.gX hH;obtain⟨c0,c1,c2,c3,c4,c5,c6,c7,c8,_⟩:=a;clear h;go_enter func36,ntmps36;go_wp2_with fail
 go_ret;exact⟨rfl,rfl⟩
theorem nh(h:ai b g cap mv c H)(hH:Holds w (H++Fr)):Calls Tryz.prog 28 #[.pointer (some ⟨b,0,none⟩)] w fun e w'=>e=.returned (.int .i64 c.bZ)∧w=w':=by
 have a:=h.gX hH;obtain⟨c0,c1,c2,c3,c4,c5,c6,c7,c8,_⟩:=a;clear h;go_enter func28,ntmps28;go_wp2_with fail
 go_ret;exact⟨rfl,rfl⟩
def CM.pY(c:CM)(k:Int):Option CB:=if 0<=k∧k<(c.blocks.length:Int)then c.blocks[k.toNat]? else none
theorem CM.lN{c:CM}{k:Int}{x:CB}(h:c.pY k=some x):∃i:Nat,k=(i:Int)∧i<c.blocks.length∧c.blocks[i]?=some x∧c.there k=true:=by
 unfold CM.pY at h;split at h
 ·rename_i hk;obtain⟨i,rfl⟩:=Int.eq_ofNat_of_zero_le hk.1;exact⟨i,rfl,by omega,by simpa using h,by unfold CM.there;exact decide_eq_true hk⟩
 ·cases h
theorem CM.B9{c:CM}{k:Int}(h:c.pY k=none):c.there k=false:=by
 unfold CM.there;refine decide_eq_false fun hk=>?_;unfold CM.pY at h;rw[if_pos hk]at h;have:k.toNat<c.blocks.length:=by omega
 simp[this]at h
theorem CM.O5{c:CM}{k:Nat}{x:CB}(h:c.blocks[k]?=some x):c.pY (k:Int)=some x:=by
 have:=(List.getElem?_eq_some_iff.1 h).1;unfold CM.pY;rw[if_pos ⟨by omega,by omega⟩];simpa using h
def CM.bu(c:CM)(k:Int):Int:=match c.pY k with|some x=>x.next|none=>0
def CM.fY(c:CM)(k:Int):Int:=match c.pY k with|some x=>x.df|none=>0
def CM.eZ(c:CM)(k:Int):Bool:=match c.pY k with|some x=>x.mark|none=>false
theorem yo(k:Int)(h:ai b g cap mv c H)(hH:Holds w (H++Fr)):Calls Tryz.prog 83 #[.pointer (some ⟨b,0,none⟩),.int .i64 k] w fun e w'=>e=.returned (.int .i64 (c.bu k))∧w=w':=by
 have HT:=aa (kQ (w:=w) k h hH);cases hb:c.pY k with
 |none=>
  rw[show c.bu k=0 by unfold CM.bu;rw[hb]];rw[CM.B9 hb]at HT;clear hb h;go_enter func83,ntmps83;go_wp2_with fail
  refine HT.o.mono ?_;rintro e wx⟨rfl,rfl⟩;go_wp2_with fail
  go_ret;exact⟨rfl,rfl⟩
 |some x=>
  rw[show c.bu k=x.next by unfold CM.bu;rw[hb]];obtain⟨i,rfl,hi,hx,ht⟩:=CM.lN hb;rw[ht]at HT;obtain⟨pv,hB⟩:=h.open_ hx;obtain⟨_,_,_,c3,_⟩:=h.gX hH;obtain⟨d0,d1,d2,d3,d4,_⟩:=hB.cells w Fr hH;have og:=h.Bl;unfold maxLen at og;have h32:=h.o7.2.2.2.2.2.1;clear hb h hB hx ht;generalize c.blocks.length=n at*;go_enter func83,ntmps83;go_wp2_with fail
  refine HT.o.mono ?_;rintro e wx⟨rfl,rfl⟩;go_wp2_with fail
  go_ret;exact⟨rfl,rfl⟩
theorem QC(k:Int)(h:ai b g cap mv c H)(hH:Holds w (H++Fr)):Calls Tryz.prog 192 #[.pointer (some ⟨b,0,none⟩),.int .i64 k] w fun e w'=>e=.returned (.int .i64 (c.fY k))∧w=w':=by
 have HT:=aa (kQ (w:=w) k h hH);cases hb:c.pY k with
 |none=>
  rw[show c.fY k=0 by unfold CM.fY;rw[hb]];rw[CM.B9 hb]at HT;clear hb h;go_enter func192,ntmps192;go_wp2_with fail
  refine HT.o.mono ?_;rintro e wx⟨rfl,rfl⟩;go_wp2_with fail
  go_ret;exact⟨rfl,rfl⟩
 |some x=>
  rw[show c.fY k=x.df by unfold CM.fY;rw[hb]];obtain⟨i,rfl,hi,hx,ht⟩:=CM.lN hb;rw[ht]at HT;obtain⟨pv,hB⟩:=h.open_ hx;obtain⟨_,_,_,c3,_⟩:=h.gX hH;obtain⟨d0,d1,d2,d3,d4,_⟩:=hB.cells w Fr hH;have og:=h.Bl;unfold maxLen at og;have h32:=h.o7.2.2.2.2.2.1;clear hb h hB hx ht;generalize c.blocks.length=n at*;go_enter func192,ntmps192;go_wp2_with fail
  refine HT.o.mono ?_;rintro e wx⟨rfl,rfl⟩;go_wp2_with fail
  go_ret;exact⟨rfl,rfl⟩
theorem sN(k:Int)(h:ai b g cap mv c H)(hH:Holds w (H++Fr)):Calls Tryz.prog 88 #[.pointer (some ⟨b,0,none⟩),.int .i64 k] w fun e w'=>e=.returned (.bool (c.eZ k))∧w=w':=by
 have HT:=aa (kQ (w:=w) k h hH);cases hb:c.pY k with
 |none=>
  rw[show c.eZ k=false by unfold CM.eZ;rw[hb]];rw[CM.B9 hb]at HT;clear hb h;go_enter func88,ntmps88;go_wp2_with fail
  refine HT.o.mono ?_;rintro e wx⟨rfl,rfl⟩;go_wp2_with fail
  go_ret;exact⟨rfl,rfl⟩
 |some x=>
  rw[show c.eZ k=x.mark by unfold CM.eZ;rw[hb]];obtain⟨i,rfl,hi,hx,ht⟩:=CM.lN hb;rw[ht]at HT;obtain⟨pv,hB⟩:=h.open_ hx;obtain⟨_,_,_,c3,_⟩:=h.gX hH;obtain⟨d0,d1,d2,d3,d4,_⟩:=hB.cells w Fr hH;have og:=h.Bl;unfold maxLen at og;have h32:=h.o7.2.2.2.2.2.1;clear hb h hB hx ht;generalize c.blocks.length=n at*;go_enter func88,ntmps88;go_wp2_with fail
  refine HT.o.mono ?_;rintro e wx⟨rfl,rfl⟩;go_wp2_with fail
  go_ret;exact⟨rfl,rfl⟩
theorem QD(h:ai b g cap mv c H)(hH:Holds w (H++Fr)):Calls Tryz.prog 73 #[.pointer (some ⟨b,0,none⟩)] w (OM b g cap mv {c with on:=true} (if c.on=true then 9 else 0) w Fr):=by
 have HI:=aa h;obtain⟨_,_,_,_,_,c5,_,_,_,f5,_⟩:=h.gX hH;rcases(Bool.eq_false_or_eq_true c.on).symm with fi|fi
 ·rw[if_neg (by rw[fi];simp)];rw[fi]at c5;obtain⟨H',h',gK⟩:=h.UF hH true;have HC:=aa h';have HH:=aa gK;clear h h' gK fi;go_enter func73,ntmps73;go_wp2_with fail
  go_ret;exact⟨.nilIface,H',[],rfl,bJ.none,HC.o,HH.o,(af.refl w).setCell _ _⟩
 ·rw[if_pos fi];rw[fi]at c5;have HE0:=aa (show({c with on:=true}:CM)=c by rw[<-fi]);clear h fi;go_enter func73,ntmps73;go_wp2_with fail
  refine(kP 9 _ _ (by omega) hH).mono ?_;rintro e w1⟨ve,He,rfl,he,ax,aK⟩;have HE:=aa he;clear he;go_wp2_with fail
  go_ret;exact⟨ve,H,He,rfl,HE.o,by rw[HE0.o];exact HI.o,ax.swap,aK⟩
end
def jw(Z:Nat):List UInt8:=List.replicate (Z+28) 255
def gQ(P Z:Nat):List (List UInt8):=List.replicate P (jw Z)
theorem YD{b Z:Nat}{w:World}(h2:w.cell? ⟨b,2,none⟩=some (.int .i64 (Z:Int)))(hz:Z<=256):Calls Tryz.prog 81 #[.pointer (some ⟨b,0,none⟩)] w fun e w'=>e=.returned (.int .i64 ((Z:Int)+28))∧w=w':=by
 go_enter func81,ntmps81;go_wp2_with fail
 go_ret;exact⟨rfl,rfl⟩
def YE(ov:Value)(P Z:Nat)(w:World)(Fr:HL)(iv:Value)(wr:World):Prop:=
 ∃(k:Nat) (H:HL),k<=P∧iv=.int .i64 k∧eK Gu 60 1 ov (List.replicate k (jw Z)++List.replicate (P-k) []) H∧Holds wr (H++Fr)∧af w wr
theorem Vv(g P:Nat)(hP:P<=8):eK Gu 60 1 (.slice (some ⟨g,0,none⟩) P P) (List.replicate P []) [(g,.cells (madeCells (Value.slice none 0 0).cells (P*1)) 60)]:=by
 refine⟨List.replicate P [.slice none 0 0],[(g,.cells (madeCells (Value.slice none 0 0).cells (P*1)) 60)],List.replicate P [],?_,by simp,by simp,?_,?_,?_⟩
 ·have h:=au.made (size:=1) (e:=60) g P (madeCells (Value.slice none 0 0).cells (P*1)) (by rw[tt]) (by simp[maxLen];omega);rw[gV];have e:(madeCells (Value.slice none 0 0).cells (P*1)).toList=(List.replicate P [Value.slice none 0 0]).flatten:=by
   apply aaN
   ·simp[madeCells]
   ·intro i h1 h2;have h3:∀z∈(List.replicate P [Value.slice none 0 0]).flatten,z=Value.slice none 0 0:=by
     intro z hz;obtain⟨c,hc,Ww⟩:=List.mem_flatten.1 hz;rw[ow hc]at Ww;simpa using Ww
    rw[h3 _ (cX h2)];simp[madeCells,Value.cells,Nat.mod_one]
  rw[e]at h;exact h
 ·intro c hc;rw[ow hc];rfl
 ·intro i c x h e1 e2 e3;rw[ow (gD e1),ow (gD e2),ow (gD e3)];exact⟨_,rfl,au.nil _ _⟩
 ·simp
theorem MP{P k Z:Nat}(h:k<P):(List.replicate k (jw Z)++List.replicate (P-k) []).set k (jw Z)=List.replicate (k+1) (jw Z)++List.replicate (P-(k+1)) []:=by
 apply List.ext_getElem?;intro i;rw[List.getElem?_set];by_cases hi:k=i
 ·subst hi;rw[if_pos rfl,if_pos (by simp;omega),y9 (by simp),qb,if_pos (by omega)]
 ·rw[if_neg hi];by_cases h2:i<k
  ·rw[y9 (by simpa using h2),y9 (by simp;omega),qb,qb,if_pos h2,if_pos (by omega)]
  ·rw[y8 (by simp;omega),y8 (by simp;omega),qb,qb];simp only[gV];by_cases h3:i<P
   ·rw[if_pos (by omega),if_pos (by omega)]
   ·rw[if_neg (by omega),if_neg (by omega)]
theorem CA(b P Z:Nat)(w:World)(Fr:HL)(hH:Holds w Fr)(hP:∀wx,Holds wx Fr->wx.cell? ⟨b,1,none⟩=some (.int .i64 (P:Int))∧wx.cell? ⟨b,2,none⟩=some (.int .i64 (Z:Int)))(rH:1<=P)(Zg:P<=8)(hz:Z<=256):
  Calls Tryz.prog 41 #[.pointer (some ⟨b,0,none⟩)] w (cB (fun v H=>iw v (gQ P Z) H) w Fr):=by
 have HP:=aa hP;obtain⟨c1,c2⟩:=hP w hH;clear hP;have yU:=fun w=>qt (P:=Tryz.prog) wG P P (aN _) (by omega) (by simp[maxLen];omega) w;obtain⟨bs,Lj⟩:∃bs,bs=madeCells (Value.slice none 0 0).cells (P*1):=⟨_,rfl⟩;have hn:=Vv w.heap.size P Zg;rw[<-Lj]at yU hn;have HN:=aa hn;clear hn Lj;go_enter func41,ntmps41;go_wp2_with fail
 go_loopw [4,13] (fun _ iv wr=>YE (.slice (some ⟨w.heap.size,0,none⟩) P P) P Z w Fr iv wr) (fun _ iv _=>P-(intOf iv).toNat)
 case atStart=>exact⟨0,_,by omega,rfl,by simpa using HN.o,hH.alloc _,(af.refl w).alloc _⟩
 case round=>
  obtain⟨k,H,hk,rfl,hr,eh,gf⟩:=hrel;clear HN c1 c2 hH;by_cases aG:k<P
  ·obtain⟨d1,d2⟩:=HP.o wr eh.right;have hxk:(List.replicate k (jw Z)++List.replicate (P-k) [])[k]?=some []:=by
    rw[y8 (by simp),qb,if_pos (by simp;omega)]
   obtain⟨g',L7,cs,Hi,Hr,hv,DI,FL,hq3,bm,⟨pv,rfl,_⟩,ae,fg,_,bz⟩:=hr.sC hxk;clear DI FL hq3;injection hv with hv mg hvc;injection hv with hv;injection hv with hv kS hv4;subst hv hvc;clear mg kS hv4;have bM:=eh.alloc (.cells #[.int .u8 255] 5);have cJ:=gf.alloc (.cells #[.int .u8 255] 5);have dZ:=fg _ (((wr.heap.size,.cells #[.int .u8 255] 5)::Fr)) (bM.p);have x0:=((ae _ _ dZ.right).2 0 (by omega)).1;have x1:=((ae _ _ dZ.right).2 0 (by omega)).2;have HC:=aa (fun(wx:World) (F:HL) (hx:Holds wx (Hr++F))=>(ae wx F hx).2 0 (by omega));have xO:=aa bz;have jj:aJ (wr.alloc (.cells #[.int .u8 255] 5)) (.slice (some ⟨wr.heap.size,0,none⟩) 1 1) [255]:=ag.abT rfl;have zI:=aa jj;have hdd:(wr.alloc (.cells #[.int .u8 255] 5)).cell? ⟨b,2,none⟩=some (.int .i64 (Z:Int)):=(HP.o _ (bM.tail.right)).2;have S8:=aa dZ;have HDD:=aa hdd;have hkP:(k:Int)<(P:Int):=by omega
   have e28:((Z:Int)+28)=((Z+28:Nat):Int):=by omega
   have HE:=aa e28;clear e28;clear hr fg bz ae bM jj dZ x0 x1 hxk bm hdd yU;go_wp2_with fail
   refine(YD (w:=wr.alloc (.cells #[.int .u8 255] 5)) HDD.o hz).mono ?_;rintro e wx⟨rfl,rfl⟩;rw[HE.o];go_wp2_with fail
   refine(Cz (.slice (some ⟨wr.heap.size,0,none⟩) 1 1) 255 (Z+28) _ _ zI.o S8.o (by omega) (by omega)).mono ?_;rintro e w3⟨v3,H3,rfl,jF,aD,bj⟩;obtain⟨A3,q3,rfl⟩:=jF.val;simp only[gV]at jF⊢;have aU:Holds w3 (H3++(Hr++((wr.heap.size,.cells #[.int .u8 255] 5)::Fr))):=aD.p;obtain⟨x0,x1⟩:=HC.o w3 ((H3++((wr.heap.size,.cells #[.int .u8 255] 5)::Fr))) (aU.p);obtain⟨H',hr',bg⟩:=xO.o w3 ((wr.heap.size,.cells #[.int .u8 255] 5)::Fr) 0 (.slice A3 (Z+28) q3) (jw Z) H3 (by omega) ⟨_,rfl,jF⟩ aU;have eY:=(cJ.trans bj).setCell ⟨w.heap.size,k*1+0,none⟩ (.slice A3 (Z+28) q3);have HR:=aa hr';have zJ:=aa bg;simp only[jc,fD,iK]at x0 x1 zJ eY;clear hr' bg aU aD jF bj;go_wp2_with fail
   refine⟨⟨k+1,H',by omega,by go_num,?_,Holds.DD (B:=[_]) zJ.o,eY⟩,by simp[intOf];omega⟩;rw[<-MP aG];exact HR.o
  ·obtain rfl:k=P:=by omega
   go_wp2_with fail
   go_ret;refine⟨_,H,rfl,?_,eh,gf⟩;unfold iw gQ;simpa using hr
def CM.pS(c:CM)(k p:Int):List UInt8:=match c.pY k with|some x=>x.ad.getD p.toNat []|none=>[]
def CM.Ey(c:CM)(k p:Int):Bool:=c.there k&&decide (0<=p∧p<=(c.P:Int)-1)
theorem GF{c:CM}{good:Bool}(h:(c.jE good).2.2=0):good=true∧c.on=true∧c.jE good=({c with ops:=c.ops+1},c.mi,0):=by
 unfold CM.jE at h⊢;cases fi:c.on
 ·rw[fi,if_pos rfl]at h;exact absurd h (by simp)
 ·rw[fi,if_neg (by simp)]at h;cases good
  ·rw[if_pos rfl]at h;exact absurd h (by simp)
  ·exact⟨rfl,rfl,by rw[if_neg (by simp),if_neg (by simp),<-fi]⟩
def CM.read(c:CM)(k p:Int):CM×List UInt8×Int:=
 let r:=c.jE (c.Ey k p)
 if r.2.2≠0 then(r.1,[],r.2.2)else if r.2.1.kind=2 then({r.1 with on:=false},[],4)else(r.1,c.pS k p,0)
def aiW(b g cap:Nat)(mv:Value)(r:CM×List UInt8×Int)(w:World)(Fr:HL)(e:Ending)(w':World):Prop:=
 ∃v ve H Hv He G,e=.returned (.tuple #[v,ve])∧ar v r.2.1 Hv∧bJ ve r.2.2 He∧ai b g cap mv r.1 H∧Holds w' (H++(Hv++(He++(G++Fr))))∧af w w'
def BV(b g cap:Nat)(mv:Value)(r:CM×Int)(w:World)(Fr:HL)(e:Ending)(w':World):Prop:=∃G,OM b g cap mv r.1 r.2 w (G++Fr) e w'
theorem de{v:Value}{H:HL}(h:bJ v 0 H):v=.nilIface∧H=[]:=by
 rcases h with⟨_,h1,h2⟩|⟨h0,_⟩
 ·exact⟨h1,h2⟩
 ·exact absurd rfl h0
theorem cI{v:Value}{c:Int}{H:HL}(h:bJ v c H)(hc:c≠0):∃b s,v=.iface 141 (.pointer (some ⟨b,0,none⟩))∧H=[(b,.cells #[.int .i64 c,.string s] 143)]:=by
 rcases h with⟨h1,_⟩|⟨_,h⟩
 ·exact absurd h1 hc
 ·exact h
section
variable{b g cap:Nat}{mv:Value}{c:CM}{H Fr:HL}{w:World}
theorem ai.aW(h:ai b g cap mv c H){k i:Nat}{x:CB}(hx:c.blocks[k]?=some x)(hi:i<c.P):∃gp cp A q,q<=maxLen∧cp<=maxLen∧c.P<=cp∧c.Z+28<=q∧∀(w:World) (F:HL),Holds w (H++F)->
  w.cell? ⟨g,k*5,none⟩=some (.slice (some ⟨gp,0,none⟩) c.P cp)∧w.cell? ⟨gp,i,none⟩=some (.slice (some ⟨A,0,none⟩) (c.Z+28) q)∧aJ w (.slice (some ⟨A,0,none⟩) (c.Z+28) q) (x.ad.getD i [])∧(x.ad.getD i []).length=c.Z+28:=by
 obtain⟨pv,hB⟩:=h.open_ hx;obtain⟨Hp,Hr,xN,im,_⟩:=hB.ad;have hl:=hB.ok.1;have hpi:x.ad[i]?=some x.ad[i]:=bF (by omega);have nj:x.ad.getD i []=x.ad[i]:=by simp[List.getD,show i<x.ad.length by omega]
 have Dm:(x.ad[i]).length=c.Z+28:=hB.ok.2.1 _ (cX _);obtain⟨gp,cp,cs,Hi,Hr2,rfl,ff,gT,_,bm,⟨v,rfl,Iq⟩,ae,fg,_⟩:=eK.sC xN hpi;have TR:=Iq;have hZ:=h.o7.2.2.1;rcases TR.2 with⟨_,h0,_⟩|⟨A,q,cur,fz,rfl,DI,FL,_⟩
 ·rw[Dm]at h0;omega
 ·rw[nj,Dm]at*;refine⟨gp,cp,A,q,FL,gT,by omega,DI,fun w F hH=>?_⟩;have h1:=im w F hH;have h2:=fg w _ h1;have e0:=((ae w _ h2.right).2 0 (by omega)).1;refine⟨by rw[<-hl];exact(hB.cells w F hH).1,by simpa using e0,Iq.at_ h2,rfl⟩
theorem EI(k p:Int)(h:ai b g cap mv c H)(hH:Holds w (H++Fr))(fI:c.ops<=1000000000000):
  Calls Tryz.prog 85 #[.pointer (some ⟨b,0,none⟩),.int .i64 k,.int .i64 p] w (aiW b g cap mv (c.read k p) w Fr):=by
 have HT:=aa (kQ (w:=w) k h hH);have S9:=aa (gI p 0 ((c.P:Int)-1) w);obtain⟨_,c1,_⟩:=h.gX hH;have rH:=h.o7.1;have Zg:=h.o7.2.1;have hZ:=h.o7.2.2.2.1;have h32:=h.o7.2.2.2.2.2.1;have og:=h.Bl;unfold maxLen at og;have Ob:=aa (fun good=>rm (w:=w) good h hH fI);have qF:=aa (show∀good,c.Ey k p=good->c.read k p=if(c.jE good).2.2≠0 then((c.jE good).1,[],(c.jE good).2.2)else if(c.jE good).2.1.kind=2 then({(c.jE good).1 with on:=false},[],4)else((c.jE good).1,c.pS k p,0)from fun good hg=>by unfold CM.read;rw[hg]);have k1:=cS;have k2:=cC;obtain⟨P,Ta⟩:∃P,P=c.P:=⟨_,rfl⟩;rw[<-Ta]at c1 S9 rH Zg;have HPe:=aa Ta;clear Ta;cases FM:c.there k
 ·rw[FM]at HT;clear h;go_enter func85,ntmps85;go_wp2_with fail
  refine HT.o.mono ?_;rintro e wx⟨rfl,rfl⟩;clear HT;go_wp2_with fail
  refine(Ob.o false).mono ?_;rintro e w1⟨ve,H1,He,G,rfl,he,ff,ax,aK⟩;have Zi:=fun h0=>GF (c:=c) (good:=false) h0;have cm:=qF.o false (by unfold CM.Ey;rw[FM];rfl);have jo:=aa cm;have PG:=aa Zi;obtain⟨⟨c9,⟨ma,mk,mb,mf⟩,ec⟩,u9⟩:∃r,r=c.jE false:=⟨_,rfl⟩;rw[<-u9]at he ff jo PG⊢;simp only[Mi.agg,bh]at he ff jo PG⊢;have sc:=aa ff;clear ff Zi cm u9 qF Ob;have bM:=ax.alloc (.cells #[.int .i64 ma,.int .i64 mk,.int .i64 mb,.int .u8 (mf.toNat:Int)] 87);have cJ:=aK.alloc (.cells #[.int .i64 ma,.int .i64 mk,.int .i64 mb,.int .u8 (mf.toNat:Int)] 87);by_cases pc:ec=0
  ·exact absurd (PG.o pc).1 (by simp)
  ·obtain⟨b9,s9,rfl,_⟩:=cI he pc;have gO:=aa (show c.read k p=(c9,[],ec) by rw[jo.o,if_pos pc]);have HE:=aa he;clear he jo PG pc;go_wp2_with fail
   go_ret2
   rw[gO.o];exact⟨_,_,H1,[],He,G++[(w1.heap.size,.cells #[.int .i64 ma,.int .i64 mk,.int .i64 mb,.int .u8 (mf.toNat:Int)] 87)],rfl,au.nil _ _,HE.o,sc.o,bM.p,cJ⟩
 ·rw[FM]at HT;clear h;go_enter func85,ntmps85;go_wp2_with fail
  refine HT.o.mono ?_;rintro e wx⟨rfl,rfl⟩;clear HT;go_wp2_with fail
  refine S9.o.mono ?_;rintro e wx⟨rfl,rfl⟩;clear S9;obtain⟨gd,Jm⟩:∃gd,gd=decide ((0:Int)<=p∧p<=(P:Int)-1):=⟨_,rfl⟩;rw[<-Jm];have XM:=aa Jm;clear Jm;go_wp2_with fail
  refine(Ob.o gd).mono ?_;rintro e w1⟨ve,H1,He,G,rfl,he,ff,ax,aK⟩;have Zi:=fun h0=>GF (c:=c) (good:=gd) h0;have cm:=qF.o gd (by unfold CM.Ey;rw[FM,XM.o,HPe.o];rfl);have jo:=aa cm;have PG:=aa Zi;obtain⟨⟨c9,⟨ma,mk,mb,mf⟩,ec⟩,u9⟩:∃r,r=c.jE gd:=⟨_,rfl⟩;rw[<-u9]at he ff jo PG⊢;simp only[Mi.agg,bh]at he ff jo PG⊢;have sc:=aa ff;clear ff Zi cm u9 qF Ob;have bM:=ax.alloc (.cells #[.int .i64 ma,.int .i64 mk,.int .i64 mb,.int .u8 (mf.toNat:Int)] 87);have cJ:=aK.alloc (.cells #[.int .i64 ma,.int .i64 mk,.int .i64 mb,.int .u8 (mf.toNat:Int)] 87);by_cases pc:ec=0
  ·subst pc;obtain⟨rfl,rfl⟩:=de he;have fi:=(PG.o rfl).2.1;have nj:=(PG.o rfl).1;have h9:=(PG.o rfl).2.2;obtain⟨z0,z1,z2,z3,_⟩:=bM.hJ;by_cases qO:mk=2
   ·subst qO;have gO:=aa (show c.read k p=({c9 with on:=false},[],4) by rw[jo.o,if_neg (by simp),if_pos rfl]);clear jo PG h9 nj fi he;go_wp2_with fail
    refine(nX sc.o (Fr:=([]:HL)++(G++((w1.heap.size,.cells #[.int .i64 ma,.int .i64 2,.int .i64 mb,.int .u8 (mf.toNat:Int)] 87)::Fr))) (bM.p)).mono ?_;rintro e w2⟨ve2,H2,St,rfl,oU,gT,aB,aX⟩;have LB:=aa oU;have HC2:=aa gT;clear oU gT;go_wp2_with fail
    go_ret2
    rw[gO.o];exact⟨_,ve2,H2,[],St,G++[(w1.heap.size,.cells #[.int .i64 ma,.int .i64 2,.int .i64 mb,.int .u8 (mf.toNat:Int)] 87)],rfl,au.nil _ _,LB.o,HC2.o,aB.p,cJ.trans aX⟩
   ·have am4:(mk==2)=false:=by simpa using qO
    have gO:=aa (show c.read k p=(c9,c.pS k p,0) by rw[jo.o,if_neg (by simp),if_neg qO]);injection h9 with h9 _;have hp:(0:Int)<=p∧p<=(P:Int)-1:=of_decide_eq_true (by rw[<-XM.o];exact nj);have dZ:Holds (w1.alloc (.cells #[.int .i64 ma,.int .i64 mk,.int .i64 mb,.int .u8 (mf.toNat:Int)] 87)) (H1++(G++((w1.heap.size,.cells #[.int .i64 ma,.int .i64 mk,.int .i64 mb,.int .u8 (mf.toNat:Int)] 87)::Fr))):=bM.p;obtain⟨i,rfl⟩:=Int.eq_ofNat_of_zero_le hp.1;obtain⟨kk,rfl,xt,hxx,_⟩:∃kk:Nat,k=(kk:Int)∧kk<c.blocks.length∧(∃x,c.blocks[kk]?=some x)∧True:=by
     unfold CM.there at FM;obtain⟨h0,h1⟩:=of_decide_eq_true FM;obtain⟨kk,rfl⟩:=Int.eq_ofNat_of_zero_le h0;exact⟨kk,rfl,by omega,⟨c.blocks[kk]'(by omega),bF (by omega)⟩,trivial⟩
    obtain⟨x,hx⟩:=hxx;have hpo:c.pS (kk:Int) (i:Int)=x.ad.getD i []:=by unfold CM.pS;rw[CM.O5 hx];simp
    have hx9:c9.blocks[kk]?=some x:=by rw[h9];exact hx
    have hi9:i<c9.P:=by rw[h9];show i<c.P;rw[<-HPe.o];omega
    obtain⟨gp,cp,A,q,hq,Dk,hPc,hZq,Z6⟩:=sc.o.aW hx9 hi9;obtain⟨p0,p1,p2,p3⟩:=Z6 _ _ dZ;have d3:=(sc.o.gX dZ).2.2.2.1;have Gb:c9.blocks.length=c.blocks.length:=by rw[h9]
    have Xc:c9.P=P:=by rw[h9];exact HPe.o.symm
    have Zj:c9.Z=c.Z:=by rw[h9]
    rw[Gb]at d3;rw[Xc]at p0 hPc hi9;rw[Zj]at p1 p2 p3 hZq;rw[hpo]at gO;have HP2:=aa p2;have HP3:=aa p3;unfold maxLen at hq Dk;have bm:=lf (.slice (some ⟨A,0,none⟩) (c.Z+28) q) (x.ad.getD i []) _ _ p2 dZ (by rw[p3];omega);have pd:=aa bm;clear p2 p3 bm Z6 hx9 hpo hx h9 nj fi he jo PG Xc Zj Gb hp FM;generalize x.ad.getD i []=pg at*;generalize c.blocks.length=nb at*;go_wp2_with fail
    refine pd.o.mono ?_;rintro e w3⟨v3,H3,rfl,jF,aD,bj⟩;have vm:=aa jF;clear jF pd;go_wp2_with fail
    go_ret2
    rw[gO.o];exact⟨v3,.nilIface,H1,H3,[],G++[(w1.heap.size,.cells #[.int .i64 ma,.int .i64 mk,.int .i64 mb,.int .u8 (mf.toNat:Int)] 87)],rfl,vm.o,bJ.none,sc.o,aD.p,cJ.trans bj⟩
  ·obtain⟨b9,s9,rfl,_⟩:=cI he pc;have gO:=aa (show c.read k p=(c9,[],ec) by rw[jo.o,if_pos pc]);have HE:=aa he;clear he jo PG pc;go_wp2_with fail
   go_ret2
   rw[gO.o];exact⟨_,_,H1,[],He,G++[(w1.heap.size,.cells #[.int .i64 ma,.int .i64 mk,.int .i64 mb,.int .u8 (mf.toNat:Int)] 87)],rfl,au.nil _ _,HE.o,sc.o,bM.p,cJ⟩
end
section
variable{b g cap:Nat}{mv:Value}{c:CM}{H Fr:HL}{w:World}
theorem ai.Vw(h:ai b g cap mv c H){k i:Nat}{x:CB}(hx:c.blocks[k]?=some x)(hi:i<c.P):∃gp cp A q,q<=maxLen∧cp<=maxLen∧c.P<=cp∧c.Z+28<=q∧(∀(w:World) (F:HL),Holds w (H++F)->
  w.cell? ⟨g,k*5,none⟩=some (.slice (some ⟨gp,0,none⟩) c.P cp)∧w.cell? ⟨gp,i,none⟩=some (.slice (some ⟨A,0,none⟩) (c.Z+28) q))∧
  ∀(w:World) (F:HL) (src:Value) (m:Nat) (bs:List UInt8),Holds w (H++F)->ag w 1 src m (bs.map bh)->m<=c.Z+28->
   ∃w' H',(Builtin.copy_ #[60,60] 3 #[.slice (some ⟨A,0,none⟩) (c.Z+28) q,src]).run Tryz.prog w=.ok (.int .i64 (m:Int)) w'∧
    ai b g cap mv (c.db k {x with ad:=x.ad.set i (bs++(x.ad.getD i []).drop m)}) H'∧Holds w' (H'++F)∧af w w':=by
 obtain⟨pv,hB⟩:=h.open_ hx;obtain⟨Hp,Hr,xN,im,rX⟩:=hB.ad;have hl:=hB.ok.1;have hpi:x.ad[i]?=some x.ad[i]:=bF (by omega);have nj:x.ad.getD i []=x.ad[i]:=by simp[List.getD,show i<x.ad.length by omega]
 have Dm:(x.ad[i]).length=c.Z+28:=hB.ok.2.1 _ (cX _);obtain⟨gp,cp,cs,Hi,Hr2,rfl,ff,gT,_,bm,⟨v,rfl,Iq⟩,ae,fg,UG,_⟩:=eK.sC xN hpi;have TR:=Iq;have hZ:=h.o7.2.2.1;rw[nj];generalize x.ad[i]=old at*;rcases TR.2 with⟨_,h0,_⟩|⟨A,q,cur,fz,rfl,DI,FL,hq3,oT,DG,rfl⟩
 ·rw[Dm]at h0;omega
 ·rw[Dm]at DI oT;refine⟨gp,cp,A,q,FL,gT,by omega,DI,fun w F hH=>?_,fun w F src m bs hH nP hm=>?_⟩
  ·have h1:=im w F hH;have h2:=fg w _ h1;have e0:=((ae w _ h2.right).2 0 (by omega)).1;rw[Dm]at e0;exact⟨by rw[<-hl];exact(hB.cells w F hH).1,by simpa using e0⟩
  ·have h1:=im w F hH;have h2:=fg w _ h1;have jq:bs.length=m:=by have:=nP.1;simpa using this
   have DS:min m (c.Z+28)=m:=by omega
   have Bm:=pB (P:=Tryz.prog) 60 60 3 5 ee.under (by kernel_rfl) (g:=A) (off:=0) (dLen:=c.Z+28) (dCap:=q) (h2.get (dC)) DG nP (by omega) (by intro y hy;obtain⟨z,_,rfl⟩:=List.mem_map.1 hy;rfl);rw[DS]at Bm;have bz:=Holds.pw (w:=w) (b:=A) (cs:=cur) (t:=5) (fz:=fz) (H:=Hr2++(Hr++F)) h2 (cur.toList.take 0++(bs.map bh).take m++cur.toList.drop (0+m)).toArray;have fT:(cur.toList.take 0++(bs.map bh).take m++cur.toList.drop (0+m)).toArray.size=cur.size:=by simp;omega
   have qP:(bs++old.drop m).length=c.Z+28:=by simp[jq,Dm];omega
   have zT:ar (.slice (some ⟨A,0,none⟩) (c.Z+28) q) (bs++old.drop m) [(A,.cells (cur.toList.take 0++(bs.map bh).take m++cur.toList.drop (0+m)).toArray 5 fz)]:=by
    unfold ar;rw[qP];refine⟨by simp[jq,Dm];omega,.inr ⟨A,q,_,fz,rfl,DI,FL,by rw[fT];exact hq3,?_,by rw[fT];exact DG,rfl⟩⟩;show List.take ((c.Z+28)*1) (cur.toList.take 0++(bs.map bh).take m++cur.toList.drop (0+m))=(bs++old.drop m).map bh;have e1:(bs.map bh).take m=bs.map bh:=gU (by simp;omega);rw[List.take_zero,jS,fp,e1,jc,List.take_append,gU (by simp;omega),dm];congr 1;rw[bY,jq,List.map_drop,<-oT,jc,List.drop_take]
   obtain⟨H3,Oc,aD⟩:=UG _ (Hr++F) (bs++old.drop m) _ ⟨_,rfl,by rw[Dm];exact zT⟩ (by simpa using bz);obtain⟨H4,vc,aU⟩:=rX _ F (x.ad.set i (bs++old.drop m)) H3 Oc (by simpa using hl) (fun p hp=>by
    rcases vM hp with h|h
    ·exact hB.ok.2.1 p h
    ·rw[h];exact qP) aD
   exact⟨_,H4,Bm,vc,by simp only[List.take_zero,jS,fp];exact aU,(af.refl w).setRow _ _⟩
end
theorem yp(c:CM)(good:Bool):(c.jE good).2.2≠0∧(c.jE good).1=c∨c.jE good=({c with ops:=c.ops+1},c.mi,0)∧good=true∧c.on=true:=by
 unfold CM.jE;by_cases h1:c.on=false
 ·rw[if_pos h1];exact .inl ⟨by simp,rfl⟩
 ·rw[if_neg h1];by_cases h2:good=false
  ·rw[if_pos h2];exact .inl ⟨by simp,rfl⟩
  ·rw[if_neg h2];exact .inr ⟨rfl,by simpa using h2,by simpa using h1⟩
theorem ag.pre{w:World}{A:Option Addr}{n cp m:Nat}{xs:List Value}(h:ag w 1 (.slice A n cp) n xs)(hm:m<=n):ag w 1 (.slice A m cp) m (xs.take m):=by
 obtain⟨h1,A',c',hv,hn,hc,h2⟩:=h;injection hv with hv _ DE;subst hv DE;refine⟨by simp at h1⊢;omega,_,_,rfl,by omega,hc,fun h0=>?_⟩;obtain⟨b,o,hA,h3⟩:=h2 (by omega);refine⟨b,o,hA,fun j u hu=>h3 j u ?_⟩;rw[lE]at hu;split at hu
 ·exact hu
 ·cases hu
theorem CM.Z7{c:CM}(h:c.ok):(c.mi.kind=0∨c.mi.kind=1∨c.mi.kind=2)∧0<=c.mi.bytes∧c.mi.bytes<=65536:=by
 have hm:=h.2.2.2.2.2.2.2.1;unfold CM.mi;cases e:zS (c.ops+1) c.ms with
 |none=>exact⟨.inl rfl,bG _,by show(0:Int)<=65536;omega⟩
 |some m=>
  obtain⟨_,_,h1,h2,h3⟩:=hm m (List.mem_of_find?_eq_some e);exact⟨.inr h1,h2,h3⟩
def ic(m:Mi)(x:CB)(n:Nat):Nat:=if x.failed=true then 0 else if m.kind=1 then min m.bytes.toNat (n-1)else if m.kind=2 then min m.bytes.toNat n else n
def CB.put(x:CB)(i:Nat)(raw:List UInt8)(many:Nat):CB:={x with ad:=x.ad.set i (raw.take many++(x.ad.getD i []).drop many),next:=x.next+1}
def px(c:CM)(m:Mi)(k:Nat)(x:CB)(i:Nat)(raw:List UInt8):CM×Int:=
 if m.kind=2 then({c.db k (x.put i raw (ic m x raw.length))with on:=false},4)
 else if m.kind=1∨x.failed=true then(c.db k {x.put i raw (ic m x raw.length)with failed:=true},5)
 else({c.db k (x.put i raw (ic m x raw.length))with dF:=c.dF+1},0)
def CM.prog(c:CM)(k:Nat)(x:CB)(p:Int)(raw:List UInt8):CM×Int:=
 let r:=c.jE (decide (0<=p∧p<=(c.P:Int)-1))
 if r.2.2≠0 then(r.1,r.2.2)else if x.mark=true∨p≠x.next then r.1.ord r.2.1 false else px r.1 r.2.1 k x p.toNat raw
end Go.Proofs.YtalnifciidblkaaGreatDoor
