/-
  Lemmas.
-/
import Derived.Test.YtalnifciidblkaaGreatDoorG17
import Derived.Test.YtalnifciidblkaaGreatDoorG00
import Derived.Shelf.Sort.Plain
import Derived.Shelf.Slices.In.SortNone
import Derived.Shelf.SlicesE.Reverse
import Derived.Shelf.SlicesE.Compact
import Derived.Shelf.SlicesE.Index
namespace Go.Proofs.YtalnifciidblkaaGreatDoor
open _root_.Go.Proofs.Tryz
open Go.RowKit
set_option linter.unusedSimpArgs false
set_option linter.unusedVariables false
def De:Go.Shelf.Ren:=⟨fun|189=>112|125=>175|257=>177|128=>212|129=>213|294=>214|295=>215|296=>216|297=>217|298=>218|299=>219|216=>220|300=>221|301=>222|328=>243|329=>239|330=>240|331=>244|332=>245|215=>183|343=>256|n=>n,fun|28=>80|3=>3|46=>128|0=>0|51=>198|53=>22|4=>4|183=>271|182=>270|131=>275|5=>5|9=>9|218=>293|222=>296|228=>305|229=>228|n=>n,fun|n=>n⟩
theorem C4:Go.Proofs.Lays.n189 Tryz.prog De where
 mixed:=by kernel_rfl
 f125:=func175.trans (congrArg some (by kernel_rfl))
 f128:=func212.trans (congrArg some (by kernel_rfl))
 f129:=func213.trans (congrArg some (by kernel_rfl))
 f189:=func112.trans (congrArg some (by kernel_rfl))
 f215:=func183.trans (congrArg some (by kernel_rfl))
 f216:=func220.trans (congrArg some (by kernel_rfl))
 f257:=func177.trans (congrArg some (by kernel_rfl))
 f294:=func214.trans (congrArg some (by kernel_rfl))
 f295:=func215.trans (congrArg some (by kernel_rfl))
 f296:=func216.trans (congrArg some (by kernel_rfl))
 f297:=func217.trans (congrArg some (by kernel_rfl))
 f298:=func218.trans (congrArg some (by kernel_rfl))
 f299:=func219.trans (congrArg some (by kernel_rfl))
 f300:=func221.trans (congrArg some (by kernel_rfl))
 f301:=func222.trans (congrArg some (by kernel_rfl))
 f328:=func243.trans (congrArg some (by kernel_rfl))
 f329:=func239.trans (congrArg some (by kernel_rfl))
 f330:=func240.trans (congrArg some (by kernel_rfl))
 f331:=func244.trans (congrArg some (by kernel_rfl))
 f332:=func245.trans (congrArg some (by kernel_rfl))
 f343:=func256.trans (congrArg some (by kernel_rfl))
 t0:=Tryz.underlying0
 a0:=Tryz.isAgg0
 z0:=Tryz.sizeOf0
 v0:=Tryz.zeroValue0
 t3:=Tryz.underlying3
 a3:=Tryz.isAgg3
 z3:=Tryz.sizeOf3
 v3:=Tryz.zeroValue3
 t4:=Tryz.underlying4
 a4:=Tryz.isAgg4
 z4:=Tryz.sizeOf4
 v4:=Tryz.zeroValue4
 t5:=Tryz.underlying5
 a5:=Tryz.isAgg5
 z5:=Tryz.sizeOf5
 v5:=Tryz.zeroValue5
 t9:=Tryz.underlying9
 a9:=Tryz.isAgg9
 z9:=Tryz.sizeOf9
 v9:=Tryz.zeroValue9
 t28:=Tryz.underlying80
 a28:=Tryz.isAgg80
 z28:=Tryz.sizeOf80
 v28:=Tryz.zeroValue80
 t46:=Tryz.underlying128
 a46:=Tryz.isAgg128
 z46:=Tryz.sizeOf128
 v46:=Tryz.zeroValue128
 t51:=Tryz.underlying198
 a51:=Tryz.isAgg198
 z51:=Tryz.sizeOf198
 v51:=Tryz.zeroValue198
 t53:=Tryz.underlying22
 a53:=Tryz.isAgg22
 z53:=Tryz.sizeOf22
 v53:=Tryz.zeroValue22
 t131:=Tryz.underlying275
 a131:=Tryz.isAgg275
 z131:=Tryz.sizeOf275
 v131:=Tryz.zeroValue275
 t182:=Tryz.underlying270
 a182:=Tryz.isAgg270
 z182:=Tryz.sizeOf270
 v182:=Tryz.zeroValue270
 t183:=Tryz.underlying271
 a183:=Tryz.isAgg271
 z183:=Tryz.sizeOf271
 v183:=Tryz.zeroValue271
 t218:=Tryz.underlying293
 a218:=Tryz.isAgg293
 z218:=Tryz.sizeOf293
 v218:=Tryz.zeroValue293
 t222:=Tryz.underlying296
 a222:=Tryz.isAgg296
 z222:=Tryz.sizeOf296
 v222:=Tryz.zeroValue296
 t228:=Tryz.underlying305
 a228:=Tryz.isAgg305
 z228:=Tryz.sizeOf305
 v228:=Tryz.zeroValue305
 t229:=Tryz.underlying228
 a229:=Tryz.isAgg228
 z229:=Tryz.sizeOf228
 v229:=Tryz.zeroValue228
def Ek:Go.Shelf.Ren:=⟨fun|35=>114|n=>n,fun|22=>80|23=>3|3=>3|4=>4|0=>0|n=>n,fun|n=>n⟩
theorem FB:Go.Proofs.SlLaysE.n35 Tryz.prog Ek where
 mixed:=by kernel_rfl
 f35:=⟨ "slices.Reverse[[]int,int]",by decide,func114.trans (congrArg some (by kernel_rfl))⟩
 t0:=Tryz.underlying0
 a0:=Tryz.isAgg0
 z0:=Tryz.sizeOf0
 v0:=Tryz.zeroValue0
 t3:=Tryz.underlying3
 a3:=Tryz.isAgg3
 z3:=Tryz.sizeOf3
 v3:=Tryz.zeroValue3
 t4:=Tryz.underlying4
 a4:=Tryz.isAgg4
 z4:=Tryz.sizeOf4
 v4:=Tryz.zeroValue4
 t22:=Tryz.underlying80
 a22:=Tryz.isAgg80
 z22:=Tryz.sizeOf80
 v22:=Tryz.zeroValue80
 a23:=Tryz.isAgg3
 z23:=Tryz.sizeOf3
def Df:Go.Shelf.Ren:=⟨fun|43=>113|n=>n,fun|22=>80|23=>3|3=>3|4=>4|0=>0|n=>n,fun|n=>n⟩
theorem NV:Go.Proofs.SlLaysE.n43 Tryz.prog Df where
 mixed:=by kernel_rfl
 f43:=⟨ "slices.Compact[[]int,int]",by decide,func113.trans (congrArg some (by kernel_rfl))⟩
 t0:=Tryz.underlying0
 a0:=Tryz.isAgg0
 z0:=Tryz.sizeOf0
 v0:=Tryz.zeroValue0
 t3:=Tryz.underlying3
 a3:=Tryz.isAgg3
 z3:=Tryz.sizeOf3
 v3:=Tryz.zeroValue3
 t4:=Tryz.underlying4
 a4:=Tryz.isAgg4
 z4:=Tryz.sizeOf4
 v4:=Tryz.zeroValue4
 t22:=Tryz.underlying80
 a22:=Tryz.isAgg80
 z22:=Tryz.sizeOf80
 v22:=Tryz.zeroValue80
 a23:=Tryz.isAgg3
 z23:=Tryz.sizeOf3
def El:Go.Shelf.Ren:=⟨fun|31=>61|29=>122|n=>n,fun|22=>80|23=>3|4=>4|3=>3|0=>0|n=>n,fun|n=>n⟩
theorem RU:Go.Proofs.SlLaysE.n31 Tryz.prog El where
 mixed:=by kernel_rfl
 f29:=⟨ "slices.Index[[]int,int]",by decide,func122.trans (congrArg some (by kernel_rfl))⟩
 f31:=⟨ "slices.Contains[[]int,int]",by decide,func61.trans (congrArg some (by kernel_rfl))⟩
 t0:=Tryz.underlying0
 a0:=Tryz.isAgg0
 z0:=Tryz.sizeOf0
 v0:=Tryz.zeroValue0
 t3:=Tryz.underlying3
 a3:=Tryz.isAgg3
 z3:=Tryz.sizeOf3
 v3:=Tryz.zeroValue3
 t4:=Tryz.underlying4
 a4:=Tryz.isAgg4
 z4:=Tryz.sizeOf4
 v4:=Tryz.zeroValue4
 t22:=Tryz.underlying80
 a22:=Tryz.isAgg80
 z22:=Tryz.sizeOf80
 v22:=Tryz.zeroValue80
 a23:=Tryz.isAgg3
 z23:=Tryz.sizeOf3
theorem aZ.ML{g:Nat}{cur:Array Value}{fz:Nat×Nat}{zs:List Int}{w:World}{Fr:HL}(ht:cur.toList.take zs.length=zs.map (Value.int .i64))(hf:Bk fz cur.size)(hl:zs.length<=cur.size)(hH:Holds w ((g,.cells cur 3 fz)::Fr)):Go.Sort.Holds (Value.int .i64) w g 0 zs.toArray:=fun j hj=>by
 have xF:j<zs.length:=by simpa using hj
 refine⟨?_,?_⟩
 ·rw[fp,hH.cell (t:=3) (cs:=cur) (fz:=fz) (by simp)];have h1:(cur.toList.take zs.length)[j]?=(zs.map (Value.int .i64))[j]?:=by rw[ht]
  rw[lE,if_pos xF]at h1;rw[<-Array.getElem?_toList,h1];simp[xF]
 ·rw[fp];exact eO (t:=3) (cs:=cur) (fz:=fz) (hH.get (by simp)) hf (by omega)
def sa(zs:List Int):List Int:=zs.mergeSort fun x y=>decide (x<=y)
theorem Cr(zs:List Int):(sa zs).length=zs.length:=by unfold sa;exact List.length_mergeSort _
theorem Cs{g cap:Nat}{cur:Array Value}{fz:Nat×Nat}{zs:List Int}{w:World}{Fr:HL}(n:Nat)(os:Array Obj)(xs:List Int)(hx:xs.length=zs.length)(hn:zs.length<=cap)(hc:cap<=maxLen)(hs:cap*1<=cur.size)(hf:Bk fz cur.size)(hH:Holds w ((g,.cells cur 3 fz)::Fr)):
  aZ (.slice (some ⟨g,0,none⟩) zs.length cap) xs [(g,.cells (Go.Sort.putCells (Value.int .i64) 0 xs.toArray cur) 3 fz)]∧Holds (Go.Sort.grow (Go.Sort.putRow (Value.int .i64) (Go.Sort.ahead w n) g 0 xs.toArray) os) ([(g,.cells (Go.Sort.putCells (Value.int .i64) 0 xs.toArray cur) 3 fz)]++Fr)∧af w (Go.Sort.grow (Go.Sort.putRow (Value.int .i64) (Go.Sort.ahead w n) g 0 xs.toArray) os):=by
 obtain⟨h1,h2⟩:=sP (Value.int .i64) (g:=g) (cur:=cur) (t:=3) (fz:=fz) (H:=Fr) n os xs.toArray hH;refine⟨?_,h1,h2⟩;have e1:=oQ (Value.int .i64) xs cur (by omega);rw[<-hx];exact⟨by simp,.inr ⟨g,cap,_,fz,rfl,by omega,hc,by rw[ij];exact hs,by rw[jc];exact e1,by rw[ij];exact hf,rfl⟩⟩
theorem RV(v:Value)(zs:List Int)(H Fr:HL)(w:World)(hv:aZ v zs H)(hH:Holds w (H++Fr))(kJ:zs.length<=1000000):Calls Tryz.prog 112 #[v] w (mu (fun H'=>aZ v (sa zs) H') (.tuple #[]) w Fr):=by
 have zK:=hv;unfold aZ at hv;rcases hv with⟨hl,⟨rfl,h0,rfl⟩|⟨g,cap,cur,fz,rfl,hn,hc,hs,ht,hf,rfl⟩⟩
 ·obtain rfl:zs=[]:=List.length_eq_zero_iff.1 h0;refine(Any.slices_Sort_int_none C4 none 0 w).mono ?_;rintro e w'⟨rfl,rfl⟩;exact⟨rfl,[],by simpa[sa]using zK,hH,af.refl _⟩
 ·rw[jc]at hl ht;refine(Any.slices_Sort_int C4 g 0 cap zs w (aZ.ML ht hf (by omega) (by simpa using hH)) (hH.lt (p:=(g,.cells cur 3 fz)) (by simp)) (by omega)).mono ?_;rintro e w'⟨rfl,n,os,rfl⟩;obtain⟨a1,a2,a3⟩:=Cs (zs:=zs) n os (sa zs) (Cr zs) hn hc hs hf (by simpa using hH);exact⟨rfl,_,a1,a2,a3⟩
theorem Wg(v:Value)(zs:List Int)(H Fr:HL)(w:World)(hv:aZ v zs H)(hH:Holds w (H++Fr))(kJ:zs.length<=1000000):Calls Tryz.prog 114 #[v] w (mu (fun H'=>aZ v zs.reverse H') (.tuple #[]) w Fr):=by
 have zK:=hv;unfold aZ at hv;rcases hv with⟨hl,⟨rfl,h0,rfl⟩|⟨g,cap,cur,fz,rfl,hn,hc,hs,ht,hf,rfl⟩⟩
 ·obtain rfl:zs=[]:=List.length_eq_zero_iff.1 h0;refine(AnyE.slices_Reverse_empty FB none 0 w).mono ?_;rintro e w'⟨rfl,rfl⟩;exact⟨rfl,[],zK,hH,af.refl _⟩
 ·rw[jc]at hl ht;refine(AnyE.slices_Reverse FB (Value.int .i64) (fun _=>rfl) g 0 cap zs w (aZ.ML ht hf (by omega) (by simpa using hH)) (by omega)).mono ?_;rintro e w'⟨rfl,n,rfl⟩;obtain⟨a1,a2,a3⟩:=Cs (zs:=zs) n #[] zs.reverse (by simp) hn hc hs hf (by simpa using hH);exact⟨rfl,_,a1,a2,a3⟩
def me(zs:List Int):List Int:=Go.Lib.compactUpTo zs.toArray zs.toArray.size
theorem Kn(zs:List Int):(me zs).length<=zs.length:=by
 unfold me Go.Lib.compactUpTo;rw[bY];have:=mU (Go.Lib.keeps zs.toArray) (List.range zs.toArray.size);rw[fP]at this;simpa using this
theorem RW(v:Value)(zs:List Int)(H Fr:HL)(w:World)(hv:aZ v zs H)(hH:Holds w (H++Fr))(kJ:zs.length<=1000000):Calls Tryz.prog 113 #[v] w (cB (fun v' H'=>aZ v' (me zs) H') w Fr):=by
 have zK:=hv;unfold aZ at hv;rcases hv with⟨hl,⟨rfl,h0,rfl⟩|⟨g,cap,cur,fz,rfl,hn,hc,hs,ht,hf,rfl⟩⟩
 ·obtain rfl:zs=[]:=List.length_eq_zero_iff.1 h0;go_enter func113,ntmps113;go_wp2_with fail
  go_ret;exact⟨_,[],rfl,zK,hH,af.refl _⟩
 ·rw[jc]at hl ht;have hA:=AnyE.slices_Compact NV (Value.int .i64) (fun _=>rfl) (EqlAt.intD _ _ .i64) (NeqAt.intD _ _ .i64) 0 Tryz.zeroValue3 g 0 cap zs.toArray w (aZ.ML ht hf (by omega) (by simpa using hH)) (by simp;omega) (by simpa using hn);rw[vR]at hA;refine hA.mono ?_;rintro e w'⟨rfl,n,rfl⟩;have hle:=Kn zs;have Dt:(me zs++List.replicate (zs.length-(me zs).length) 0).length=zs.length:=by rw[aY,gV];omega
  obtain⟨a1,a2,a3⟩:=Cs (zs:=zs) n #[] (me zs++List.replicate (zs.length-(me zs).length) 0) Dt hn hc hs hf (by simpa using hH);have AV:Go.Lib.compactUpTo zs.toArray zs.length=me zs:=by unfold me;simp
  rw[AV];refine⟨_,_,rfl,?_,a2,a3⟩;rcases a1 with⟨b1,⟨b2,b3,b4⟩|⟨g2,agT,xM,fz2,b2,b3,b4,b5,b6,b7,b8⟩⟩
  ·exact absurd b4 (by simp)
  ·injection b2 with b2 b9 b10;injection b2 with b2;injection b2 with b2;subst b2 b10;refine⟨by simp,.inr ⟨g,cap,xM,fz2,rfl,by omega,b4,b5,?_,b7,b8⟩⟩;rw[jc];rw[jc]at b6;have h:=congrArg (List.take (me zs).length) b6;rw[List.take_take,uc (by rw[Dt];exact hle),dm,BK (by simp),List.take_of_length_le (l:=(me zs).map (Value.int .i64)) (by simp)]at h;exact h
theorem Wh(v:Value)(zs:List Int)(x:Int)(w:World)(h:sF w v zs)(h0:0<zs.length):Calls Tryz.prog 61 #[v,.int .i64 x] w fun e w'=>e=.returned (.bool (zs.contains x))∧w'=w:=by
 obtain⟨-,A,c,rfl,h1,h2,cm⟩:=h;obtain⟨b,o,rfl,hc⟩:=cm h0;have hA:=AnyE.slices_Contains RU (Value.int .i64) _ (EqlAt.int _ _ .i64) b o zs.length c zs x w (aN _) (by unfold maxLen at h2;omega) (fun j hj=>by
  have:=hc j (.int .i64 zs[j]) (by rw[dW,bF hj];rfl);rw[this,getElem!_pos zs j hj])
 refine hA.mono ?_;rintro e w'⟨rfl,rfl⟩;refine⟨?_,rfl⟩;congr 2;rw[gU (aN _)];rw[Bool.eq_iff_iff,List.any_eq_true,List.contains_iff_mem];constructor
 ·rintro⟨y,hy,e⟩;have:x=y:=by simpa using e
  rw[this];exact hy
 ·intro hx;exact⟨x,hx,by simp⟩
end Go.Proofs.YtalnifciidblkaaGreatDoor
