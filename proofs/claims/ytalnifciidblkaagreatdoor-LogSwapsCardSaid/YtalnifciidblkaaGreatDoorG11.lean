/-
  Lemmas.
-/
import Derived.Test.YtalnifciidblkaaGreatDoorG00
namespace Go.Proofs.YtalnifciidblkaaGreatDoor
open Go.RowKit
set_option linter.unusedSimpArgs false
set_option linter.unusedVariables false
section
variable{P:Program}{w:World}{e:TypeId}{n:Nat}{v:Value}{xs:List Value}{H Fr:HL}
theorem pW(u:Value)(k:Nat):Builtin.zeroCells #[u] k=(List.replicate k u).toArray:=by
 unfold Builtin.zeroCells;apply Array.ext
 ·simp
 ·intro j h1 h2;simp[Nat.mod_one]
theorem tC{olds news:List Value}{z:Array Value}{old m:Nat}(hz:z.size=1)(ho:olds=xs)(Dt:xs.length=n)(qP:news.length=m)(Di:n+m<=maxLen)(hFr:Holds w Fr):
  ∃H',au e 1 (.slice (some ⟨w.heap.size,0,none⟩) (n+m) (grownCap w (n+m) old e)) (n+m) (xs++news) H'∧
   Holds (w.drew.alloc (.cells (olds.toArray++news.toArray++Builtin.zeroCells z (grownCap w (n+m) old e-(n+m))) e)) (H'++Fr):=by
 subst ho;have uO:=grownCap_ge w (n+m) old e;have nO:grownCap w (n+m) old e<=maxLen:=grownCap_le_maxLen w (n+m) old e Di;have hlen:(olds++news).length=(n+m)*1:=by rw[aY];omega
 refine⟨[(w.heap.size,_)],⟨hlen,.inr ⟨w.heap.size,_,_,_,rfl,uO,nO,?_,?_,lb _,rfl⟩⟩,hFr.drew.alloc _⟩
 ·simp only[Array.size_append,vR,size_zeroCells,hz,Dt,qP,jc];omega
 ·simp only[Array.toList_append,cE];rw[<-cE,<-hlen];exact List.take_left
theorem Kb{g cap:Nat}{cur:Array Value}{fz:Nat×Nat}{news:List Value}{m:Nat}(hH:Holds w ([(g,.cells cur e fz)]++Fr))(Dt:xs.length=n)(mM:cap*1<=cur.size)(iL:cur.toList.take (n*1)=xs)(hf:Bk fz cur.size)(nO:cap<=maxLen)
  (qP:news.length=m)(lG:n+m<=cap)(h1:∀x∈news,x.oneCell'=true):
  (storeCells ((⟨g,n,none⟩:Addr)) news).run P w=.ok () (w.setRow g (cur.toList.take n++news++cur.toList.drop (n+news.length)).toArray)∧
  ∃H',au e 1 (.slice (some ⟨g,0,none⟩) (n+m) cap) (n+m) (xs++news) H'∧Holds (w.setRow g (cur.toList.take n++news++cur.toList.drop (n+news.length)).toArray) (H'++Fr):=by
 have pM:n+news.length<=cur.size:=by omega
 have hg:w.heap[g]?=some (.cells cur e fz):=hH.get (by simp);have bD:=iW (P:=P) g n e fz news 0 cur w hg hf (by simpa using pM) h1;simp only[fD]at bD;have hlen:(xs++news).length=(n+m)*1:=by rw[aY];omega
 have TQ:(cur.toList.take n++news++cur.toList.drop (n+news.length)).toArray.size=cur.size:=by
  simp only[vR,aY,dG,dA,vP];omega
 rw[jc]at iL;refine⟨bD,[(g,.cells (cur.toList.take n++news++cur.toList.drop (n+news.length)).toArray e fz)],⟨hlen,.inr ⟨g,cap,_,fz,rfl,lG,nO,?_,?_,?_,rfl⟩⟩,?_⟩
 ·rw[TQ];exact mM
 ·rw[iL,<-hlen];exact List.take_left
 ·rw[TQ];exact hf
 ·exact Holds.pw (H:=Fr) (by simpa using hH) _
theorem Fm{g cap:Nat}{cur:Array Value}{fz:Nat×Nat}(hH:Holds w ([(g,.cells cur e fz)]++Fr))(Dt:xs.length=n)(iL:cur.toList.take (n*1)=xs):
  (Builtin.firstCells 1 n (.slice (some ⟨g,0,none⟩) n cap)).run P w.drew=.ok xs.toArray w.drew:=by
 refine run_firstCells_some (P:=P) w.drew 1 n ⟨g,0,none⟩ n cap xs (by omega) ?_;intro j u hu;rw[cV,fp];show w.cell? _=_;rw[hH.cell (t:=e) (cs:=cur) (fz:=fz) (by simp)];rw[<-iL,lE]at hu;split at hu
 ·simpa using hu
 ·cases hu
theorem yS(t it ty:TypeId)(i:TypeInfo)(u:Value)(ht:P.underlying t=some (.slice e))(PX:P.underlying it=some (.int .i64))(hi:P.info? e=some i)(hz:i.zero=some u)(hcu:u.cells=#[u])
  (mV:i.size=1)(xr:i.bytes=1)(hu1:u.oneCell'=true)(ay:au e 1 v n xs H)(hH:Holds w (H++Fr)){k:Nat}(Di:n+k<=1000000):
  ∃v' w' H',(Builtin.append_ #[t,it] ty #[v,.int .i64 (k:Int)]).run P w=.ok v' w'∧au e 1 v' (n+k) (xs++List.replicate k u) H'∧Holds w' (H'++Fr)∧af w w':=by
 have Ss:IntKind.i64.wrap (k:Int)=k:=by rw[IntKind.wrap_i64];omega
 have Jo:¬((k:Int)<0):=by omega
 have aco:¬(281474976710656<(k:Int)):=by omega
 have Dt:xs.length=n:=by rw[ay.1,jc]
 have Ua:n+k<=maxLen:=by simp only[maxLen];omega
 have Il:IntKind.i64.wrap 0=0:=by kernel_rfl
 have zN:¬(k=0)∨k=0:=by omega
 by_cases hk:k=0
 ·subst hk;refine⟨v,w,H,?_,by simpa using ay,hH,af.refl w⟩;rcases ay.2 with⟨rfl,rfl,rfl⟩|⟨g,cap,cur,fz,rfl,PC,L4,mM,iL,hf,rfl⟩
  ·simp[Builtin.append_,run_underlying ht,run_underlying PX,sizeOf,typeInfo,hi,mV,xr,asInt,asIntOf,storeCells,Il]
  ·simp[Builtin.append_,run_underlying ht,run_underlying PX,sizeOf,typeInfo,hi,mV,xr,asInt,asIntOf,storeCells,Il,PC]
 ·have WI:¬(k<=0):=by omega
  rcases ay.2 with⟨rfl,rfl,rfl⟩|⟨g,cap,cur,fz,rfl,PC,L4,mM,iL,hf,rfl⟩
  ·have hx:xs=[]:=jW Dt;subst hx;have Mh:¬(9223372036854775807<(k:Int)):=by omega
   have Mj:¬(281474976710656<Builtin.nextslicecap k 0):=by rw[nextslicecap_zero (by omega)];omega
   obtain⟨H',h2,h3⟩:=tC (w:=w) (e:=e) (xs:=[]) (olds:=[]) (n:=0) (m:=k) (old:=0) (news:=List.replicate k u) (z:=u.cells) (by rw[hcu];rfl) rfl rfl (by simp) Ua (by simpa using hH);refine⟨_,_,H',?_,h2,h3,(af.refl w).drew.alloc _⟩;simp[Builtin.append_,run_underlying ht,run_underlying PX,sizeOf,typeInfo,hi,mV,xr,asInt,asIntOf,Ss,Jo,aco,WI,hk,Mh,Mj,zeroValue,hz,hcu,pW,Question.forced,run_firstCells_none,newRow,grownCap]
  ·by_cases lG:n+k<=cap
   ·obtain⟨bD,H',h2,h3⟩:=Kb (P:=P) (m:=k) (news:=List.replicate k u) hH Dt mM iL hf L4 (by simp) lG (by intro x hx;rw[(List.mem_replicate.1 hx).2];exact hu1);refine⟨_,_,H',?_,h2,h3,(af.refl w).setRow _ _⟩;simp[Builtin.append_,run_underlying ht,run_underlying PX,sizeOf,typeInfo,hi,mV,xr,asInt,asIntOf,Ss,Jo,aco,lG,zeroValue,hz,hcu,pW,Addr.add_lit,hk,bD]
   ·have Mh:¬(9223372036854775807<(n:Int)+(k:Int)):=by omega
    have Mj:¬(281474976710656<Builtin.nextslicecap (n+k) cap):=by
     have:=nextslicecap_le (need:=n+k) (old:=cap) (by omega);omega
    have hfo:=Fm (P:=P) (cap:=cap) hH Dt iL;obtain⟨H',h2,h3⟩:=tC (w:=w) (e:=e) (xs:=xs) (olds:=xs) (n:=n) (m:=k) (old:=cap) (news:=List.replicate k u) (z:=u.cells) (by rw[hcu];rfl) rfl Dt (by simp) Ua hH.right;refine⟨_,_,H',?_,h2,h3,(af.refl w).drew.alloc _⟩;simp[Builtin.append_,run_underlying ht,run_underlying PX,sizeOf,typeInfo,hi,mV,xr,asInt,asIntOf,Ss,Jo,aco,lG,hk,Mh,Mj,zeroValue,hz,hcu,pW,Question.forced,hfo,newRow,grownCap]
theorem Dd(t u ty:TypeId)(i:TypeInfo)(z:Value)(ht:P.underlying t=some (.slice e))(hu:P.underlying u=some .string)(hi:P.info? e=some i)(hz:i.zero=some z)(S4:z.cells.size=1)
  (mV:i.size=1)(xr:i.bytes=1)(ay:au e 1 v n xs H)(hH:Holds w (H++Fr))(bs:List UInt8)(Di:n+bs.length<=1000000):
  ∃v' w' H',(Builtin.append_ #[t,u] ty #[v,.string ⟨bs.toArray⟩]).run P w=.ok v' w'∧au e 1 v' (n+bs.length) (xs++bs.map bh) H'∧Holds w' (H'++Fr)∧af w w':=by
 have Dt:xs.length=n:=by rw[ay.1,jc]
 have Ua:n+bs.length<=maxLen:=by simp only[maxLen];omega
 have fT:(⟨bs.toArray⟩:ByteArray).size=bs.length:=by show bs.toArray.size=_;simp
 have yT:∀w':World,(Builtin.firstCells 1 bs.length (.string ⟨bs.toArray⟩)).run P w'=.ok (bs.map bh).toArray w':=by
  intro w';have:((⟨bs.toArray⟩:ByteArray).extract 0 bs.length)=⟨bs.toArray⟩:=by
   apply ByteArray.ext;rw[ByteArray.data_extract];show bs.toArray.extract 0 bs.length=bs.toArray;simp
  simp[Builtin.firstCells,this,bh]
 have h1:∀x∈bs.map bh,x.oneCell'=true:=by intro x hx;obtain⟨y,_,rfl⟩:=List.mem_map.1 hx;rfl
 generalize hm:bs.length=m at*;generalize uZ:bs.map bh=news at*;have qP:news.length=m:=by rw[<-uZ,bY,hm]
 generalize(⟨bs.toArray⟩:ByteArray)=S at*;by_cases hk:m=0
 ·subst hk;have ei:news=[]:=jW qP;subst ei;refine⟨v,w,H,?_,by simpa using ay,hH,af.refl w⟩;rcases ay.2 with⟨rfl,rfl,rfl⟩|⟨g,cap,cur,fz,rfl,PC,L4,mM,iL,hf,rfl⟩
  ·simp[Builtin.append_,run_underlying ht,run_underlying hu,sizeOf,typeInfo,hi,mV,xr,Builtin.lenOf,fT,yT,storeCells]
  ·simp[Builtin.append_,run_underlying ht,run_underlying hu,sizeOf,typeInfo,hi,mV,xr,Builtin.lenOf,fT,yT,storeCells,PC]
 ·rcases ay.2 with⟨rfl,rfl,rfl⟩|⟨g,cap,cur,fz,rfl,PC,L4,mM,iL,hf,rfl⟩
  ·have hx:xs=[]:=jW Dt;subst hx;have Mh:¬(9223372036854775807<(m:Int)):=by omega
   have Mj:¬(281474976710656<Builtin.nextslicecap m 0):=by rw[nextslicecap_zero (by omega)];omega
   obtain⟨H',h2,h3⟩:=tC (w:=w) (e:=e) (xs:=[]) (olds:=[]) (n:=0) (m:=m) (old:=0) (news:=news) (z:=z.cells) S4 rfl rfl qP Ua (by simpa using hH);refine⟨_,_,H',?_,h2,h3,(af.refl w).drew.alloc _⟩;simp[Builtin.append_,run_underlying ht,run_underlying hu,sizeOf,typeInfo,hi,mV,xr,Builtin.lenOf,fT,yT,hk,Mh,Mj,zeroValue,hz,Question.forced,run_firstCells_none,newRow,grownCap]
  ·by_cases lG:n+m<=cap
   ·obtain⟨bD,H',h2,h3⟩:=Kb (P:=P) (m:=m) (news:=news) hH Dt mM iL hf L4 qP lG h1;refine⟨_,_,H',?_,h2,h3,(af.refl w).setRow _ _⟩;simp[Builtin.append_,run_underlying ht,run_underlying hu,sizeOf,typeInfo,hi,mV,xr,Builtin.lenOf,fT,yT,lG,Addr.add_lit,bD]
   ·have Mh:¬(9223372036854775807<(n:Int)+(m:Int)):=by omega
    have Mj:¬(281474976710656<Builtin.nextslicecap (n+m) cap):=by
     have:=nextslicecap_le (need:=n+m) (old:=cap) (by omega);omega
    have hfo:=Fm (P:=P) (cap:=cap) hH Dt iL;obtain⟨H',h2,h3⟩:=tC (w:=w) (e:=e) (xs:=xs) (olds:=xs) (n:=n) (m:=m) (old:=cap) (news:=news) (z:=z.cells) S4 rfl Dt qP Ua hH.right;refine⟨_,_,H',?_,h2,h3,(af.refl w).drew.alloc _⟩;simp[Builtin.append_,run_underlying ht,run_underlying hu,sizeOf,typeInfo,hi,mV,xr,Builtin.lenOf,fT,yT,lG,Mh,Mj,zeroValue,hz,Question.forced,hfo,newRow,grownCap];congr 2;apply Array.ext';simp
variable{Q:Exit->Act->World->Prop}
theorem mI{ops:Array Oper}{rest:List Oper}{o:Oper}{a:Act}{t it:TypeId}{u:Value}(hT:rP P t e 1 1 u)(PX:P.underlying it=some (.int .i64))(nj:o.guard=none)(s x:Operand)
  (ho:o.op=.call {callee:=.builtin .append,args:=#[s,x],argTypes:=#[t,it]})(hcu:u.cells=#[u])(hu1:u.oneCell'=true){k:Nat}
  (hs:a.eval s=v)(hx:a.eval x=.int .i64 (k:Int))(ay:au e 1 v n xs H)(hH:Holds w (H++Fr))(Di:n+k<=1000000)
  (h:∀A' c' w' H',au e 1 (.slice A' (n+k) c') (n+k) (xs++List.replicate k u) H'->Holds w' (H'++Fr)->af w w'->wpList P ops Q rest (a.put o.dst (.slice A' (n+k) c')) w'):wpList P ops Q (o::rest) a w:=by
 refine wpList_plain nj fun K hK=>?_;obtain⟨i,hi,hz,fT,xr⟩:=hT.info;obtain⟨v',w',H',hr,h2,h3,h4⟩:=yS (P:=P) t it o.type i u hT.under PX hi hz hcu fT xr hu1 ay hH Di;obtain⟨A',c',rfl⟩:=h2.val;unfold Oper.wp execOp;simp only[ho,resolve,invoke,builtin,Sem.run_bind,Sem.run_pure,Result.andThen_ok,List.map_toArray,ku,List.map_nil,hs,hx,hr];exact hK _ _ (h A' c' w' H' h2 h3 h4)
theorem xp{ops:Array Oper}{rest:List Oper}{o:Oper}{a:Act}{t u:TypeId}{z:Value}(hT:rP P t e 1 1 z)(hu:P.underlying u=some .string)(nj:o.guard=none)(s x:Operand)
  (ho:o.op=.call {callee:=.builtin .append,args:=#[s,x],argTypes:=#[t,u]})(bs:List UInt8)
  (hs:a.eval s=v)(hx:a.eval x=.string ⟨bs.toArray⟩)(ay:au e 1 v n xs H)(hH:Holds w (H++Fr))(Di:n+bs.length<=1000000)
  (h:∀A' c' w' H',au e 1 (.slice A' (n+bs.length) c') (n+bs.length) (xs++bs.map bh) H'->Holds w' (H'++Fr)->af w w'->wpList P ops Q rest (a.put o.dst (.slice A' (n+bs.length) c')) w'):wpList P ops Q (o::rest) a w:=by
 refine wpList_plain nj fun K hK=>?_;obtain⟨i,hi,hz,fT,xr⟩:=hT.info;obtain⟨v',w',H',hr,h2,h3,h4⟩:=Dd (P:=P) t u o.type i z hT.under hu hi hz hT.cells fT xr ay hH bs Di;obtain⟨A',c',rfl⟩:=h2.val;unfold Oper.wp execOp;simp only[ho,resolve,invoke,builtin,Sem.run_bind,Sem.run_pure,Result.andThen_ok,List.map_toArray,ku,List.map_nil,hs,hx,hr];exact hK _ _ (h A' c' w' H' h2 h3 h4)
end
end Go.Proofs.YtalnifciidblkaaGreatDoor
