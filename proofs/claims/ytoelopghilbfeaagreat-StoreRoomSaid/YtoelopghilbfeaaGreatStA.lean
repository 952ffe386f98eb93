/-
  Texts put together: YtoelopghilbfeaaGreatSt, YtoelopghilbfeaaGreatSt2, YtoelopghilbfeaaGreatSt3, YtoelopghilbfeaaGreatSt4.
-/
import Derived.Test.YtoelopghilbfeaaGreatNd11
import Derived.Test.YtoelopghilbfeaaGreatYds
import Derived.Test.YtoelopghilbfeaaGreatHd3
import Derived.Test.YtoelopghilbfeaaGreatPlA
import Derived.Maps.Keyed
import Derived.Carry
namespace Go.Proofs.YtoelopghilbfeaaGreat
open Go.RowKit
set_option linter.unusedSimpArgs false
set_option linter.unusedVariables false
theorem Holds.setBlkS {w:World} {b:Nat} {o:Obj} {H:HL} (h:Holds w ((b,o)::H)) (o':Obj):Holds (Go.ChangeMaps.setBlock w b o') ((b,o')::H):=by
 refine ⟨fun c=>?_,fun p hp=>?_⟩
 ·have:=h.one c;rw [keyc_cons] at this ⊢;exact this
 ·have hb:b<w.heap.size:=h.lt (p:=(b,o)) (by simp)
  rcases List.mem_cons.1 hp with rfl | hp
  ·simp [Go.ChangeMaps.setBlock,hb]
  ·have hne:b≠p.1:=Holds.apart (A:=[(b,o)]) (B:=H) h (x:=(b,o)) (by simp) hp
   have:=h.mem p (List.mem_cons_of_mem _ hp)
   simp only [Go.ChangeMaps.setBlock]
   rw [Array.getElem?_setIfInBounds_ne hne]
   exact this
theorem Grew.setBlkS {a w:World} (h:Grew a w) (b:Nat) (o:Obj):Grew a (Go.ChangeMaps.setBlock w b o):=⟨h.os,h.tape,h.output,by have:=h.size;simp only [Go.ChangeMaps.setBlock,Array.size_setIfInBounds];exact this⟩
def HsOk (es:List MapEntry) (hs:List (Int × Hd)):Prop:=es.map (fun e=>(e.key,e.val))=hs.map fun p=>(.int .i64 p.1,p.2.agg)
def lookS (hs:List (Int × Hd)) (a:Int):Option Hd:=(hs.find? fun p=>p.1 == a).map (·.2)
def putS (hs:List (Int × Hd)) (a:Int) (h:Hd):List (Int × Hd):=match hs.findIdx? fun p=>p.1 == a with | some i=>hs.set i (a,h) | none=>hs++[(a,h)]
def delS (hs:List (Int × Hd)) (a:Int):List (Int × Hd):=match hs.findIdx? fun p=>p.1 == a with | some i=>hs.eraseIdx i | none=>hs
structure HsWf (hs:List (Int × Hd)):Prop where
 nodup:(hs.map (·.1)).Nodup
 rng:∀ p∈hs,0≤p.1∧p.1≤1000000
theorem keyedI:Go.Maps.Keyed Tryz.prog 3:=Go.Maps.int_keyed Tryz.underlying3
set_option maxRecDepth 20000 in
theorem keyI {a:Int} (h0:0≤a) (h1:a≤9223372036854775807):keyOf Tryz.prog 3 (.int .i64 a)=some (.int .i64 a):=Go.Maps.keyOf_int_mk Tryz.underlying3 (by
 have h1:IntKind.min .i64=-9223372036854775808:=rfl
 have h2:IntKind.max .i64=9223372036854775807:=rfl
 simp only [Lit.wf,h1,h2,Bool.and_eq_true,decide_eq_true_eq]
 omega)
theorem HsOk.len {es:List MapEntry} {hs:List (Int × Hd)} (h:HsOk es hs):es.length=hs.length:=by have:=congrArg List.length h;simpa using this
theorem HsOk.get {es:List MapEntry} {hs:List (Int × Hd)} (h:HsOk es hs) (i:Nat) (h1:i<es.length) (h2:i<hs.length):es[i].key=.int .i64 hs[i].1∧es[i].val=hs[i].2.agg:=by
 have h3:(es.map fun e=>(e.key,e.val))[i]?=(hs.map fun p=>(Value.int .i64 p.1,p.2.agg))[i]?:=by rw [show es.map _=_ from h]
 rw [List.getElem?_map,List.getElem?_map,List.getElem?_eq_getElem h1,List.getElem?_eq_getElem h2] at h3
 simpa using h3
theorem hs_find {es:Array MapEntry} {hs:List (Int × Hd)} (h:HsOk es.toList hs) (hwf:HsWf hs) {a:Int} (h0:0≤a) (h1:a≤9223372036854775807) (w:World) :
  ((hs.findIdx? fun p=>p.1 == a)=none∧(Instr.findKey 3 (.int .i64 a) es.toList).run Tryz.prog w=.ok none w∧∀ e∈es.toList,e.key≠.int .i64 a) ∨
  ∃ j e,(hs.findIdx? fun p=>p.1 == a)=some j∧(Instr.findKey 3 (.int .i64 a) es.toList).run Tryz.prog w=.ok (some (j,e.val)) w∧es.toList[j]?=some e∧e.key=.int .i64 a:=by
 have hlen:=h.len
 have hks:∀ e∈es.toList,∃ l,keyOf Tryz.prog 3 e.key=some l:=by
  intro e he
  obtain ⟨i,hi,rfl⟩:=List.mem_iff_getElem.1 he
  rw [(h.get i hi (by omega)).1]
  have:=hwf.rng _ (List.getElem_mem (show i<hs.length by omega))
  exact ⟨_,keyI this.1 (by omega)⟩
 rcases keyedI.find w (keyI h0 h1) es.toList hks with ⟨h1,h2⟩ | ⟨j,e,h1,h2,h3⟩
 ·refine .inl ⟨?_,h1,h2⟩
  rw [List.findIdx?_eq_none_iff]
  intro p hp
  obtain ⟨i,hi,rfl⟩:=List.mem_iff_getElem.1 hp
  have:=h2 _ (List.getElem_mem (show i<es.toList.length by omega))
  rw [(h.get i (by omega) hi).1] at this
  simpa using this
 ·obtain ⟨hj,he⟩:=List.getElem?_eq_some_iff.1 h2
  refine .inr ⟨j,e,?_,h1,h2,h3⟩
  have hjM:j<hs.length:=by omega
  have hk:=(h.get j hj hjM).1
  rw [he,h3] at hk
  have hja:hs[j].1=a:=by simp only [Value.int.injEq,true_and] at hk;exact hk.symm
  rw [List.findIdx?_eq_some_iff_getElem]
  refine ⟨hjM,by simpa using hja,fun i hij=>?_⟩
  have:=List.pairwise_iff_getElem.1 hwf.nodup i j (by simp;omega) (by simpa using hjM) hij
  simp only [List.getElem_map] at this
  simp only [beq_iff_eq]
  intro hia
  exact this (hia.trans hja.symm)
theorem lookS_none {hs:List (Int × Hd)} {a:Int} (h:(hs.findIdx? fun p=>p.1 == a)=none):lookS hs a=none:=by
 unfold lookS
 rw [List.find?_eq_none.2 fun p hp=>by simpa using (List.findIdx?_eq_none_iff.1 h) p hp]
 rfl
theorem lookS_some {hs:List (Int × Hd)} {a:Int} {j:Nat} (h:(hs.findIdx? fun p=>p.1 == a)=some j):∃ hj:j<hs.length,hs[j].1=a∧lookS hs a=some hs[j].2:=by
 obtain ⟨hj,h1,h2⟩:=List.findIdx?_eq_some_iff_getElem.1 h
 refine ⟨hj,by simpa using h1,?_⟩
 unfold lookS
 have:hs.find? (fun p=>p.1 == a)=some hs[j]:=by
  rw [List.find?_eq_some_iff_getElem]
  exact ⟨h1,j,hj,rfl,fun i hi=>by simpa using h2 i hi⟩
 rw [this]
 rfl
theorem hs_look {w:World} {mb clock:Nat} {es:Array MapEntry} {hs:List (Int × Hd)} (hb:w.heap[mb]?=some (.map es clock)) (h:HsOk es.toList hs) (hwf:HsWf hs) {a:Int} (h0:0≤a) (h1:a≤9223372036854775807) :
  (Instr.lookup 94 (.map (some mb)) (.int .i64 a) true).run Tryz.prog w=.ok (.tuple #[((lookS hs a).getD Hd.zero).agg,.bool (lookS hs a).isSome]) w:=by
 have hz:(zeroValue 37).run Tryz.prog w=.ok Hd.zero.agg w:=by kernel_rfl
 rcases hs_find h hwf h0 h1 w with ⟨g1,g2,g3⟩ | ⟨j,e,g1,g2,g3,g4⟩
 ·rw [lookS_none g1]
  simp [Instr.lookup,run_underlying Tryz.underlying94,Go.MapKept.run_getObj_map hb,keyedI.check w _ (keyI h0 h1),g2,hz,Result.andThen]
 ·obtain ⟨hj,e1,e2⟩:=lookS_some g1
  rw [e2]
  obtain ⟨hj2,he⟩:=List.getElem?_eq_some_iff.1 g3
  have e3:=(h.get j hj2 hj).2
  rw [he] at e3
  simp [Instr.lookup,run_underlying Tryz.underlying94,Go.MapKept.run_getObj_map hb,keyedI.check w _ (keyI h0 h1),g2,e3,Result.andThen]
theorem modify_listS {es:Array MapEntry} {j:Nat} {e:MapEntry} (he:es.toList[j]?=some e) (f:MapEntry→MapEntry):(es.modify j f).toList=es.toList.set j (f e):=by
 rw [Array.toList_modify,Go.ChangeMaps.modify_eq_set _ _ _ _ he]
theorem map_eraseIdxS {α β:Type} (f:α→β):∀ (l:List α) (i:Nat),(l.eraseIdx i).map f=(l.map f).eraseIdx i
 |[],_=>rfl
 |_::_,0=>rfl
 |x::l,i+1=>by simp [map_eraseIdxS f l i]
theorem hs_put {w:World} {mb clock:Nat} {es:Array MapEntry} {hs:List (Int × Hd)} (hb:w.heap[mb]?=some (.map es clock)) (h:HsOk es.toList hs) (hwf:HsWf hs) (hst:Go.MapKept.Stamped es clock) {a:Int} (h0:0≤a) (h1:a≤1000000) (x:Hd) :
  ∃ es' clock',(Instr.mapUpdate 94 (.map (some mb)) (.int .i64 a) x.agg).run Tryz.prog w=.ok () (Go.ChangeMaps.setBlock w mb (.map es' clock'))∧Go.MapKept.Stamped es' clock'∧HsOk es'.toList (putS hs a x):=by
 have hk:=keyI h0 (show a≤9223372036854775807 by omega)
 rcases hs_find h hwf h0 (show a≤9223372036854775807 by omega) w with ⟨h1,h2,h3⟩ | ⟨j,e,h1,h2,h3,h4⟩
 ·refine ⟨es.push ⟨.int .i64 a,x.agg,clock⟩,clock+1,?_,Go.MapKept.stamped_push hst h3,?_⟩
  ·simp [Instr.mapUpdate,run_underlying Tryz.underlying94,Go.MapKept.run_getObj_map hb,keyedI.check w false hk,h2,Go.MapKept.run_setObj_map _ hb,Result.andThen,Go.ChangeMaps.setBlock]
  ·unfold putS HsOk
   rw [h1,Array.toList_push,List.map_append,List.map_append,show es.toList.map _=_ from h]
   rfl
 ·have hj:es[j]?=some e:=by simpa using h3
  have hkeyf:∀ e',es[j]?=some e'→({ e' with key:=.int .i64 a,val:=x.agg }:MapEntry).key=e'.key:=fun e' he'=>by rw [hj] at he';cases he';exact h4.symm
  refine ⟨es.modify j (fun e'=>{ e' with key:=.int .i64 a,val:=x.agg }),clock,?_,Go.MapKept.stamped_modify hst _ _ (fun _ _=>rfl) (fun e' _ he'=>hkeyf e' he'),?_⟩
  ·simp [Instr.mapUpdate,run_underlying Tryz.underlying94,Go.MapKept.run_getObj_map hb,keyedI.check w false hk,h2,hj,h4,keyedI.stays w hk,Go.MapKept.run_setObj_map _ hb,Result.andThen,Go.ChangeMaps.setBlock]
  ·unfold putS HsOk
   rw [h1,modify_listS h3,List.map_set,List.map_set,show es.toList.map _=_ from h]
theorem hs_del {w:World} {mb clock:Nat} {es:Array MapEntry} {hs:List (Int × Hd)} (hb:w.heap[mb]?=some (.map es clock)) (h:HsOk es.toList hs) (hwf:HsWf hs) (hst:Go.MapKept.Stamped es clock) {a:Int} (h0:0≤a) (h1:a≤1000000) :
  ∃ es',(∀ ty,(Builtin.delete_ #[94,3] ty #[.map (some mb),.int .i64 a]).run Tryz.prog w=.ok (.tuple #[]) (Go.ChangeMaps.setBlock w mb (.map es' clock)))∧Go.MapKept.Stamped es' clock∧HsOk es'.toList (delS hs a):=by
 have hk:=keyI h0 (show a≤9223372036854775807 by omega)
 rcases hs_find h hwf h0 (show a≤9223372036854775807 by omega) w with ⟨h1,h2,h3⟩ | ⟨j,e,h1,h2,h3,h4⟩
 ·refine ⟨es,fun ty=>?_,hst,?_⟩
  ·simp [Builtin.delete_,run_underlying Tryz.underlying94,Go.MapKept.run_getObj_map hb,keyedI.check w _ hk,h2,Go.MapKept.run_setObj_map _ hb,Result.andThen,Go.ChangeMaps.setBlock]
  ·unfold delS
   rw [h1]
   exact h
 ·have hjl:j<es.toList.length:=(List.getElem?_eq_some_iff.1 h3).1
  have hjs:j<es.size:=by simpa using hjl
  have hsub:(es.eraseIdxIfInBounds j).toList=es.toList.eraseIdx j:=by
   unfold Array.eraseIdxIfInBounds
   rw [dif_pos hjs]
   simp
  refine ⟨es.eraseIdxIfInBounds j,fun ty=>?_,Go.MapKept.stamped_erase hst j,?_⟩
  ·simp [Builtin.delete_,run_underlying Tryz.underlying94,Go.MapKept.run_getObj_map hb,keyedI.check w _ hk,h2,Go.MapKept.run_setObj_map _ hb,Result.andThen,Go.ChangeMaps.setBlock]
  ·unfold delS HsOk
   rw [h1,hsub,map_eraseIdxS,map_eraseIdxS,show es.toList.map _=_ from h]
structure SM where
 B:Nat
 P:Nat
 Z:Nat
 y:List YB
 hs:List (Int × Hd)
 op:Int
def stO (yb cb mb:Nat) (s:SM):Obj:=.cells #[.pointer (some ⟨yb,0,none⟩),.pointer (some ⟨cb,0,none⟩),.int .i64 (s.B:Int),.int .i64 (s.P:Int),.int .i64 (s.Z:Int),.map (some mb),.int .i64 s.op] 96
def StAt (b cb:Nat) (s:SM) (H:HL):Prop :=
 ∃ yb mb es clock Hy,IsYard (.pointer (some ⟨yb,0,none⟩)) s.y Hy∧HsOk es.toList s.hs∧Go.MapKept.Stamped es clock∧HsWf s.hs∧planB s.B s.P s.Z=true∧(-1≤s.op∧s.op<s.B)∧s.y.length=s.B ∧
  H=(b,stO yb cb mb s)::((mb,.map es clock)::Hy)
theorem StAt.plan {b cb:Nat} {s:SM} {H:HL} (h:StAt b cb s H):planB s.B s.P s.Z=true:=by obtain ⟨_,_,_,_,_,_,_,_,_,h,_⟩:=h;exact h
end Go.Proofs.YtoelopghilbfeaaGreat
namespace Go.Proofs.YtoelopghilbfeaaGreat
open Go.RowKit
set_option linter.unusedSimpArgs false
set_option linter.unusedVariables false
variable {b cb g cap:Nat} {mv:Value} {c:CM} {s:SM} {H Hc Fr:HL} {w:World}
theorem StAt.cells (h:StAt b cb s H):∃ yb mb,∀ (w:World) (F:HL),Holds w (H++F)→w.cell? ⟨b,0,none⟩=some (.pointer (some ⟨yb,0,none⟩))∧w.cell? ⟨b,1,none⟩=some (.pointer (some ⟨cb,0,none⟩)) ∧
  w.cell? ⟨b,2,none⟩=some (.int .i64 (s.B:Int))∧w.cell? ⟨b,3,none⟩=some (.int .i64 (s.P:Int))∧w.cell? ⟨b,4,none⟩=some (.int .i64 (s.Z:Int))∧w.cell? ⟨b,5,none⟩=some (.map (some mb))∧w.cell? ⟨b,6,none⟩=some (.int .i64 s.op):=by
 obtain ⟨yb,mb,es,clock,Hy,_,_,_,_,_,_,_,rfl⟩:=h
 exact ⟨yb,mb,fun w F hX=>⟨hX.hcell 0,hX.hcell 1,hX.hcell 2,hX.hcell 3,hX.hcell 4,hX.hcell 5,hX.hcell 6⟩⟩
def leftI (s:SM) (c:CM):Int:=if s.op=-1 then 0 else (s.P:Int) - c.nextOf s.op
theorem next_bd (h:c.ok) (k:Int):0≤c.nextOf k∧c.nextOf k≤8:=by
 unfold CM.nextOf
 cases hb:c.blk k with
 |none=>simp
 |some x =>
  obtain ⟨i,rfl,hi,hx,_⟩:=CM.blk_some hb
  have h2:=h.2.2.2.2.2.2.2.2.2.2.2.2.2 x (List.mem_of_getElem? hx)
  have h3:=h.2.1
  unfold CB.ok at h2
  simp only
  omega
set_option maxRecDepth 20000 in
set_option maxHeartbeats 1000000 in
theorem left_any (h:StAt b cb s H) (hch:ChipAt cb g cap mv c Hc) (hH:Holds w (H++(Hc++Fr))):Calls Tryz.prog 46 #[.pointer (some ⟨b,0,none⟩)] w (RetQ w (.int .i64 (leftI s c))):=by
 obtain ⟨yb,mb,hcl⟩:=h.cells
 have HN:=Lib.hid (fun q=>nnext_any s.op hch ((hH.right).drewN q))
 have hnb:=next_bd hch.cok s.op
 have hpb:=plan_bd h.plan
 obtain ⟨x0,x1,x2,x3,x4,x5,x6⟩:=hcl w _ hH
 have HL:=Lib.hid (show leftI s c=if s.op=-1 then 0 else (s.P:Int) - c.nextOf s.op from rfl)
 generalize leftI s c=r at *
 obtain ⟨B,P,Z,y,hs,op⟩:=s
 dsimp only at *
 clear h hch hH hcl
 generalize c.nextOf op=nx at *
 by_cases ho:op=-1
 ·have e1:(op == -1)=true:=by simpa using ho
  rw [if_pos ho] at HL
  go_enter Tryz.func46,Tryz.ntmps46
  go_wp2_with fail
  go_ret
  rw [HL.out]
  exact ⟨rfl,0,rfl⟩
 ·have e1:(op == -1)=false:=by simpa using ho
  rw [if_neg ho] at HL
  go_enter Tryz.func46,Tryz.ntmps46
  go_wp2_with fail
  go_quiet ((go_at_call 74;exact quietS (HN.out _)))
  go_wp2_with fail
  go_ret
  rw [HL.out]
  exact ⟨rfl,nq,rfl⟩
theorem swrong_any (k:Int) (w:World) (Fr:HL) (hc:k≠0) (hH:Holds w Fr):Calls Tryz.prog 39 #[.int .i64 k] w (RetErr k w Fr):=by
 have hc':=Lib.hid hc;clear hc
 go_enter Tryz.func39,Tryz.ntmps39
 go_wp2_with fail
 go_ret
 exact ⟨_,_,rfl,.inr ⟨hc'.out,_,_,rfl,rfl⟩,hH.alloc _,(Grew.refl w).alloc _⟩
end Go.Proofs.YtoelopghilbfeaaGreat
namespace Go.Proofs.YtoelopghilbfeaaGreat
open Go.RowKit
set_option linter.unusedSimpArgs false
set_option linter.unusedVariables false
variable {b cb g cap:Nat} {mv:Value} {c:CM} {s:SM} {H Hc Fr:HL} {w:World}
theorem putS_keys {hs:List (Int × Hd)} {a:Int} {h:Hd}:(putS hs a h).map (·.1)=if a∈hs.map (·.1) then hs.map (·.1) else hs.map (·.1)++[a]:=by
 unfold putS
 cases hf:hs.findIdx? fun p=>p.1 == a with
 |none =>
  have hn:=List.findIdx?_eq_none_iff.1 hf
  rw [if_neg]
  ·simp
  ·intro ha
   obtain ⟨p,hp,rfl⟩:=List.mem_map.1 ha
   simpa using hn p hp
 |some i =>
  obtain ⟨hi,h1,_⟩:=List.findIdx?_eq_some_iff_getElem.1 hf
  have h1':hs[i].1=a:=by simpa using h1
  rw [if_pos (List.mem_map.2 ⟨_,List.getElem_mem hi,h1'⟩)]
  simp only [List.map_set]
  rw [← h1']
  have:=List.set_getElem_self (show i<(hs.map (·.1)).length by simpa using hi)
  simpa using this
theorem HsWf.put {hs:List (Int × Hd)} (h:HsWf hs) {a:Int} {x:Hd} (h0:0≤a) (h1:a≤1000000):HsWf (putS hs a x) where
 nodup:=by
  rw [putS_keys]
  split
  ·exact h.nodup
  ·rename_i hn
   exact List.nodup_append.2 ⟨h.nodup,by simp,fun x hx y hy e=>hn (by rw [List.mem_singleton] at hy;rw [← hy,← e];exact hx)⟩
 rng p hp:=by
  have h2:p.1∈(putS hs a x).map (·.1):=List.mem_map.2 ⟨p,hp,rfl⟩
  rw [putS_keys] at h2
  have h3:p.1=a∨p.1∈hs.map (·.1):=by
   split at h2
   ·exact .inr h2
   ·rcases List.mem_append.1 h2 with h2 | h2
    ·exact .inr h2
    ·exact .inl (by simpa using h2)
  rcases h3 with h3 | h3
  ·rw [h3];exact ⟨h0,h1⟩
  ·obtain ⟨q,hq,e⟩:=List.mem_map.1 h3
   rw [← e];exact h.rng q hq
theorem yset_len (y:List YB) (k:Int) (x:YB):(Yset y k x).length=y.length:=by
 unfold Yset
 simp
def keepS (s:SM) (k p:Int) (h:Hd):SM:={ s with y:=(Yneed s.y k p (decide (h.k=1))).1,hs:=putS s.hs (k * s.P+p) h }
def RetSt (b cb:Nat) (s':SM) (v:Value) (w:World) (Fr:HL) (e:Ending) (w':World):Prop:=e=.returned v∧∃ H',StAt b cb s' H'∧Holds w' (H'++Fr)∧Grew w w'
theorem yneed_len (y:List YB) (k p:Int) (d:Bool):(Yneed y k p d).1.length=y.length:=by
 unfold Yneed
 split
 ·rfl
 ·split
  ·rfl
  ·exact yset_len _ _ _
set_option maxRecDepth 20000 in
set_option maxHeartbeats 4000000 in
theorem keep_any (k p:Int) (hd:Hd) (h:StAt b cb s H) (hH:Holds w (H++Fr)) (hk0:0≤k) (hk1:k<s.B) (hp0:0≤p) (hp1:p<s.P) :
  Calls Tryz.prog 51 #[.pointer (some ⟨b,0,none⟩),.int .i64 k,.int .i64 p,hd.agg] w (RetSt b cb (keepS s k p hd) (.int .i64 (k * s.P+p)) w Fr):=by
 obtain ⟨yb,mb,es,clock,Hy,hy,hok,hst,hwf,hpl,hop,hyl,rfl⟩:=h
 have hpb:=plan_bd hpl
 have hmb:=mul_bd (B:=(s.B:Int)) (P:=(s.P:Int)) hk0 (by omega) hpb.2.1 (by omega) hpb.2.2.2.1
 have HPL:=Lib.hid hpl
 have HY:=Lib.hid (fun (wx:World) (F:HL) (hx:Holds wx (Hy++F))=>yneed_any k p (decide (hd.k=1)) hy hx)
 have HPG:=Lib.hid (fun (wx:World) (F:HL) (hx:Holds wx F)=>page_any (s.B:Int) (s.P:Int) (s.Z:Int) k p wx F hx hpl hk0 hk1 hp0 hp1)
 have HMAP:=Lib.hid (fun (wx:World) (hx:wx.heap[mb]?=some (.map es clock))=>hs_put hx hok hwf hst (a:=k * s.P+p) (by omega) (by omega) hd)
 have HWF:=Lib.hid (hwf.put (a:=k * s.P+p) (x:=hd) (by omega) (by omega))
 have HYL:=Lib.hid (show (Yneed s.y k p (decide (hd.k=1))).1.length=s.B by rw [yneed_len,hyl])
 have HOP:=Lib.hid hop
 have HKS:=Lib.hid (show keepS s k p hd={ s with y:=(Yneed s.y k p (decide (hd.k=1))).1,hs:=putS s.hs (k * s.P+p) hd } from rfl)
 generalize keepS s k p hd=s2 at *
 generalize (Yneed s.y k p (decide (hd.k=1)))=yn at *
 generalize putS s.hs (k * s.P+p) hd=hs2 at *
 obtain ⟨B,P,Z,y,hs,op⟩:=s
 unfold stO at hH
 dsimp only at *
 obtain ⟨hdk,hda,hds,hdg⟩:=hd
 simp only [Hd.agg,Hd.cells] at *
 have hdec:(hdk == 1)=decide (hdk=1):=rfl
 have HDEC:=Lib.hid hdec
 rw [← hdec] at HY
 clear hdec hy hok hst hwf hop hyl hpl
 have hH1:=hH.alloc (.cells #[.int .i64 hdk,.int .u64 hda,.int .i64 hds,.int .i64 hdg] 37)
 have hg1:=(Grew.refl w).alloc (.cells #[.int .i64 hdk,.int .u64 hda,.int .i64 hds,.int .i64 hdg] 37)
 have hHa:Holds (w.alloc (.cells #[.int .i64 hdk,.int .u64 hda,.int .i64 hds,.int .i64 hdg] 37)) (Hy++((w.heap.size,.cells #[.int .i64 hdk,.int .u64 hda,.int .i64 hds,.int .i64 hdg] 37)::((b,.cells #[.pointer (some ⟨yb,0,none⟩),.pointer (some ⟨cb,0,none⟩),.int .i64 (B:Int),.int .i64 (P:Int),.int .i64 (Z:Int),.map (some mb),.int .i64 op] 96)::((mb,.map es clock)::Fr)))):=hH1.p
 clear hH1 hH
 have HSW:Hid (∀ (wx:World) (X:HL) (gh:Nat),Holds wx (X++((gh,(.cells #[.int .i64 hdk,.int .u64 hda,.int .i64 hds,.int .i64 hdg] 37))::((b,(.cells #[.pointer (some ⟨yb,0,none⟩),.pointer (some ⟨cb,0,none⟩),.int .i64 (B:Int),.int .i64 (P:Int),.int .i64 (Z:Int),.map (some mb),.int .i64 op] 96))::((mb,.map es clock)::Fr))))→wx.cell? ⟨gh,0,none⟩=some (.int .i64 hdk)∧wx.cell? ⟨gh,1,none⟩=some (.int .u64 hda)∧wx.cell? ⟨gh,2,none⟩=some (.int .i64 hds)∧wx.cell? ⟨gh,3,none⟩=some (.int .i64 hdg)∧wx.cell? ⟨b,0,none⟩=some (.pointer (some ⟨yb,0,none⟩))∧wx.cell? ⟨b,2,none⟩=some (.int .i64 (B:Int))∧wx.cell? ⟨b,3,none⟩=some (.int .i64 (P:Int))∧wx.cell? ⟨b,4,none⟩=some (.int .i64 (Z:Int))∧wx.cell? ⟨b,5,none⟩=some (.map (some mb))∧wx.heap[mb]?=some (.map es clock)):=Lib.hid (fun wx X gh hX=>⟨hX.right.hcell 0,hX.right.hcell 1,hX.right.hcell 2,hX.right.hcell 3,hX.right.tail.hcell 0,hX.right.tail.hcell 2,hX.right.tail.hcell 3,hX.right.tail.hcell 4,hX.right.tail.hcell 5,hX.right.tail.tail.get (List.mem_cons_self)⟩)
 go_enter Tryz.func51,Tryz.ntmps51
 go_upto_region 1 with fail
 generalize w.alloc (.cells #[.int .i64 hdk,.int .u64 hda,.int .i64 hds,.int .i64 hdg] 37)=w0 at *
 generalize w.heap.size=gh at *
 refine Z_begin (fun wx=>wx.cell? ⟨gh,0,none⟩=some (.int .i64 hdk)∧wx.cell? ⟨gh,1,none⟩=some (.int .u64 hda)∧wx.cell? ⟨gh,2,none⟩=some (.int .i64 hds)∧wx.cell? ⟨gh,3,none⟩=some (.int .i64 hdg)∧wx.cell? ⟨b,0,none⟩=some (.pointer (some ⟨yb,0,none⟩))∧wx.cell? ⟨b,2,none⟩=some (.int .i64 (B:Int))∧wx.cell? ⟨b,3,none⟩=some (.int .i64 (P:Int))∧wx.cell? ⟨b,4,none⟩=some (.int .i64 (Z:Int))∧wx.cell? ⟨b,5,none⟩=some (.map (some mb))∧wx.heap[mb]?=some (.map es clock)) 10 (by kernel_rfl) (fun w1 hd=>HSW.out _ _ _ (hHa.dr hd)) (fun w1 hd hs=>?_)
 have hH3:=hHa.dr hd;have hG3:=hg1.trans (Grew.dr hd);clear hd hHa hg1
 refine Zt 0 10 ?_ rfl hs ?_ ?_
 rotate_left
 ·rintro wx ⟨s0,s1,s2,s3,s4,s5,s6,s7,s8,s9⟩;go_simp;try with_reducible rfl
 simp only [pt,sA,sS,sZ]
 refine Zt 1 11 ?_ rfl hs ?_ ?_
 rotate_left
 ·rintro wx ⟨s0,s1,s2,s3,s4,s5,s6,s7,s8,s9⟩;go_simp;try with_reducible rfl
 simp only [pt,sA,sS,sZ]
 refine Zt 2 12 ?_ rfl hs ?_ ?_
 rotate_left
 ·rintro wx ⟨s0,s1,s2,s3,s4,s5,s6,s7,s8,s9⟩;go_simp;try with_reducible rfl
 simp only [pt,sA,sS,sZ]
 refine Zt 3 13 ?_ rfl hs ?_ ?_
 rotate_left
 ·rintro wx ⟨s0,s1,s2,s3,s4,s5,s6,s7,s8,s9⟩;go_simp;try with_reducible rfl
 simp only [pt,sA,sS,sZ]
 refine Zt 4 14 ?_ rfl hs ?_ ?_
 rotate_left
 ·rintro wx ⟨s0,s1,s2,s3,s4,s5,s6,s7,s8,s9⟩;go_simp;try with_reducible rfl
 simp only [pt,sA,sS,sZ]
 refine Zt 5 15 ?_ rfl hs ?_ ?_
 rotate_left
 ·rintro wx ⟨s0,s1,s2,s3,s4,s5,s6,s7,s8,s9⟩;go_simp;try with_reducible rfl
 simp only [pt,sA,sS,sZ]
 refine Zt 6 16 ?_ rfl hs ?_ ?_
 rotate_left
 ·rintro wx ⟨s0,s1,s2,s3,s4,s5,s6,s7,s8,s9⟩;go_simp;try with_reducible rfl
 simp only [pt,sA,sS,sZ]
 refine Zt 7 17 ?_ rfl hs ?_ ?_
 rotate_left
 ·rintro wx ⟨s0,s1,s2,s3,s4,s5,s6,s7,s8,s9⟩;go_simp;try with_reducible rfl
 simp only [pt,sA,sS,sZ]
 refine Zt 8 18 ?_ rfl hs ?_ ?_
 rotate_left
 ·rintro wx ⟨s0,s1,s2,s3,s4,s5,s6,s7,s8,s9⟩;go_simp;try with_reducible rfl
 simp only [pt,sA,sS,sZ]
 refine Z_mid 9 rfl (by kernel_rfl) (fun K hK=>?_)
 have ⟨s0,s1,s2,s3,s4,s5,s6,s7,s8,s9⟩:=hs
 go_simp;refine (HY.out w1 _ hH3).mono ?_;rintro e w4 ⟨ve,Hy2,He,rfl,he4,hy4,hH4,hg4⟩;have hG4:=hG3.trans hg4;have HY4:=Lib.hid hy4;have hH5:Holds w4 (Hy2++((gh,(.cells #[.int .i64 hdk,.int .u64 hda,.int .i64 hds,.int .i64 hdg] 37))::((b,(.cells #[.pointer (some ⟨yb,0,none⟩),.pointer (some ⟨cb,0,none⟩),.int .i64 (B:Int),.int .i64 (P:Int),.int .i64 (Z:Int),.map (some mb),.int .i64 op] 96))::((mb,.map es clock)::Fr)))):=by (have h:Holds w4 (He++(Hy2++((gh,(.cells #[.int .i64 hdk,.int .u64 hda,.int .i64 hds,.int .i64 hdg] 37))::((b,(.cells #[.pointer (some ⟨yb,0,none⟩),.pointer (some ⟨cb,0,none⟩),.int .i64 (B:Int),.int .i64 (P:Int),.int .i64 (Z:Int),.map (some mb),.int .i64 op] 96))::((mb,.map es clock)::Fr))))):=hH4.swap);exact h.right
 clear s0 s1 s2 s3 s4 s5 s6 s7 s8 s9
 refine hK _ _ (HSW.out _ _ _ hH5) (fun hs2=>?_);clear hK K hs;have hs:=hs2;clear hs2
 refine Z_done (by kernel_rfl) ?_ _
 clear hs hH3 hG3 hy4 hH4 hg4 he4
 have HPG2:=Lib.hid (HPG.out w4 _ hH5)
 obtain ⟨s0,s1,s2',s3,s4,s5,s6,s7,s8,s9⟩:=HSW.out _ _ _ hH5
 clear hH5
 go_wp2_with fail
 refine HPG2.out.mono ?_
 rintro e w6 ⟨rfl,hH6,hg6⟩
 have hG6:=hG4.trans hg6
 generalize hpn:k * (P:Int)+p=pn at *
 clear hpn s0 s1 s2' s3 s4 s5 s6 s7 s8 s9 hG4 hg6 HPG2
 go_upto_region 3 with fail
 refine Y_begin (fun wx=>wx.cell? ⟨gh,0,none⟩=some (.int .i64 hdk)∧wx.cell? ⟨gh,1,none⟩=some (.int .u64 hda)∧wx.cell? ⟨gh,2,none⟩=some (.int .i64 hds)∧wx.cell? ⟨gh,3,none⟩=some (.int .i64 hdg)∧wx.cell? ⟨b,0,none⟩=some (.pointer (some ⟨yb,0,none⟩))∧wx.cell? ⟨b,2,none⟩=some (.int .i64 (B:Int))∧wx.cell? ⟨b,3,none⟩=some (.int .i64 (P:Int))∧wx.cell? ⟨b,4,none⟩=some (.int .i64 (Z:Int))∧wx.cell? ⟨b,5,none⟩=some (.map (some mb))∧wx.heap[mb]?=some (.map es clock)) 6 (by kernel_rfl) (fun w1 hd=>HSW.out _ _ _ (hH6.dr hd)) (fun w1 hd hs=>?_)
 have hH7:=hH6.dr hd;have hG7:=hG6.trans (Grew.dr hd);clear hd hH6 hG6
 refine Yt 0 27 ?_ rfl hs ?_ ?_
 rotate_left
 ·intro wx;go_simp;try with_reducible rfl
 simp only [pt,sA,sS,sZ]
 refine Yt 1 28 ?_ rfl hs ?_ ?_
 rotate_left
 ·intro wx;go_simp;try with_reducible rfl
 simp only [pt,sA,sS,sZ]
 refine Yt 2 29 ?_ rfl hs ?_ ?_
 rotate_left
 ·intro wx;go_simp;try with_reducible rfl
 simp only [pt,sA,sS,sZ]
 refine Yd 3 30 ?_ rfl hs ?_ ?_
 rotate_left
 ·rintro wx ⟨s0,s1,s2,s3,s4,s5,s6,s7,s8,s9⟩;go_simp;try with_reducible rfl
 simp only [pt,sA,sS,sZ]
 refine Yt 4 31 ?_ rfl hs ?_ ?_
 rotate_left
 ·intro wx;go_simp;try with_reducible rfl
 simp only [pt,sA,sS,sZ]
 refine Yd 5 32 ?_ rfl hs ?_ ?_
 rotate_left
 ·rintro wx ⟨s0,s1,s2,s3,s4,s5,s6,s7,s8,s9⟩;go_simp;try with_reducible rfl
 simp only [pt,sA,sS,sZ]
 refine Y_late 6 rfl (by kernel_rfl) (by kernel_rfl) (fun K hK=>?_)
 have ⟨s0,s1,s2,s3,s4,s5,s6,s7,s8,s9⟩:=hs
 obtain ⟨es2,ck2,hrun,hst2,hok2⟩:=HMAP.out w1 s9;go_simp
 clear s0 s1 s2 s3 s4 s5 s6 s7 s8 s9 hs
 refine hK _ _ ?_;clear hK K
 refine Y_done (by kernel_rfl) ?_ _
 have hH8:Holds w1 ((mb,.map es clock)::((b,(.cells #[.pointer (some ⟨yb,0,none⟩),.pointer (some ⟨cb,0,none⟩),.int .i64 (B:Int),.int .i64 (P:Int),.int .i64 (Z:Int),.map (some mb),.int .i64 op] 96))::(Hy2++Fr))):=hH7.p
 have hH9:=hH8.setBlkS (.map es2 ck2)
 have hG9:=hG7.setBlkS mb (.map es2 ck2)
 have HST2:=Lib.hid hst2
 have HOK2:=Lib.hid hok2
 change Exit.then _ _ _ _ (Go.ChangeMaps.setBlock w1 mb (.map es2 ck2))
 generalize Go.ChangeMaps.setBlock w1 mb (.map es2 ck2)=w9 at *
 clear hrun hst2 hok2 hH7 hG7 hH8
 go_wp2_with fail
 go_ret
 rw [HKS.out]
 refine ⟨rfl,(b,(.cells #[.pointer (some ⟨yb,0,none⟩),.pointer (some ⟨cb,0,none⟩),.int .i64 (B:Int),.int .i64 (P:Int),.int .i64 (Z:Int),.map (some mb),.int .i64 op] 96))::((mb,.map es2 ck2)::Hy2),⟨yb,mb,es2,ck2,Hy2,HY4.out,HOK2.out,HST2.out,HWF.out,HPL.out,HOP.out,HYL.out,rfl⟩,?_,hG9⟩
 exact hH9.p
end Go.Proofs.YtoelopghilbfeaaGreat
namespace Go.Proofs.YtoelopghilbfeaaGreat
open Go.RowKit
set_option linter.unusedSimpArgs false
set_option linter.unusedVariables false
variable {b cb g cap:Nat} {mv:Value} {c:CM} {s:SM} {H Hc Fr:HL} {w:World}
def RetSE (b cb g cap:Nat) (mv:Value) (s':SM) (c':CM) (code:Int) (w:World) (Fr:HL) (e:Ending) (w':World):Prop :=
 ∃ ve He H' Hc',e=.returned ve∧IsErr ve code He∧StAt b cb s' H'∧ChipAt cb g cap mv c' Hc'∧Holds w' (H'++(Hc'++(He++Fr)))∧Grew w w'
def giveS (s:SM) (c:CM) (k:Nat) (x:CB):SM × CM × Int :=
 if (c.markE k x).2≠0 then (s,(c.markE k x).1,(c.markE k x).2) else ({ s with y:=(Yretire s.y k).1,op:=if s.op=k then -1 else s.op },(c.markE k x).1,0)
theorem yretire_len (y:List YB) (k:Int):(Yretire y k).1.length=y.length:=by
 unfold Yretire
 split
 ·rfl
 ·split
  ·rfl
  ·exact yset_len _ _ _
theorem stO_set {yb:Nat} {B P Z:Int} {m op:Value} (h:Holds w ((b,.cells #[.pointer (some ⟨yb,0,none⟩),.pointer (some ⟨cb,0,none⟩),.int .i64 B,.int .i64 P,.int .i64 Z,m,op] 96)::Fr)) (u:Value) :
  Holds (w.setCell ⟨b,6,none⟩ u) ((b,.cells #[.pointer (some ⟨yb,0,none⟩),.pointer (some ⟨cb,0,none⟩),.int .i64 B,.int .i64 P,.int .i64 Z,m,u] 96)::Fr):=h.set' 6 u
set_option maxRecDepth 20000 in
set_option maxHeartbeats 4000000 in
theorem give_any (k:Nat) (x:CB) (h:StAt b cb s H) (hch:ChipAt cb g cap mv c Hc) (hH:Holds w (H++(Hc++Fr))) (hops:c.ops<1000000000000) (hx:c.blocks[k]?=some x) :
  Calls Tryz.prog 52 #[.pointer (some ⟨b,0,none⟩),.int .i64 k] w (RetSE b cb g cap mv (giveS s c k x).1 (giveS s c k x).2.1 (giveS s c k x).2.2 w Fr):=by
 have HST:=Lib.hid h
 obtain ⟨yb,mb,es,clock,Hy,hy,hok,hst,hwf,hpl,hop,hyl,rfl⟩:=h
 unfold stO at hH
 have HM:=Lib.hid (nmark_any (w:=w) k x hch (Holds.swap hH) hops hx)
 have HG:=Lib.hid (show giveS s c k x=if (c.markE k x).2≠0 then (s,(c.markE k x).1,(c.markE k x).2) else ({ s with y:=(Yretire s.y k).1,op:=if s.op=k then -1 else s.op },(c.markE k x).1,0) from rfl)
 generalize giveS s c k x=res at *
 have x0:=hH.hcell 0
 have x1:=hH.hcell 1
 have x6:=hH.hcell 6
 generalize (c.markE k x)=mr at *
 obtain ⟨c2,code⟩:=mr
 have HY:=Lib.hid (fun (wx:World) (F:HL) (hx:Holds wx (Hy++F))=>yretire_any (k:Int) hy hx)
 have HYL:=Lib.hid (show (Yretire s.y k).1.length=s.B by rw [yretire_len,hyl])
 have HOK:=Lib.hid hok
 have HSTM:=Lib.hid hst
 have HWF:=Lib.hid hwf
 have HPL:=Lib.hid hpl
 have HOP:=Lib.hid hop
 clear hch hH hx hy hok hst hwf hpl hyl
 dsimp only at *
 have k1:=err_ne
 have k2:=nil_ne
 go_enter Tryz.func52,Tryz.ntmps52
 go_wp2_with fail
 refine HM.out.mono ?_
 rintro e w2 ⟨G,ve,Hc2,He,rfl,he,hch2,hH2,hg2⟩
 have HCH:=Lib.hid hch2
 clear x0 x1 x6
 by_cases hc0:code=0
 ·subst hc0
  obtain ⟨rfl,rfl⟩:=isErr0 he
  have hH3:Holds w2 (Hy++((b,(.cells #[.pointer (some ⟨yb,0,none⟩),.pointer (some ⟨cb,0,none⟩),.int .i64 (s.B:Int),.int .i64 (s.P:Int),.int .i64 (s.Z:Int),.map (some mb),.int .i64 s.op] 96))::((mb,.map es clock)::(Hc2++Fr)))):=hH2.p
  have HY2:=Lib.hid (HY.out w2 _ hH3)
  have x0:=hH3.right.hcell 0
  clear hH2 he hch2 HM hH3 HY
  generalize hyr:Yretire s.y (k:Int)=yr at *
  clear hyr
  go_wp2_with fail
  refine HY2.out.mono ?_
  rintro e w3 ⟨ve3,Hy3,He3,rfl,he3,hy3,hH3,hg3⟩
  have HY3:=Lib.hid hy3
  have hg4:=hg2.trans hg3
  have hH4:Holds w3 ((b,(.cells #[.pointer (some ⟨yb,0,none⟩),.pointer (some ⟨cb,0,none⟩),.int .i64 (s.B:Int),.int .i64 (s.P:Int),.int .i64 (s.Z:Int),.map (some mb),.int .i64 s.op] 96))::((mb,.map es clock)::(Hy3++(Hc2++Fr)))):=hH3.p
  clear x0 HY2 he3 hy3 hH3 hg3 hg2
  have x6:=hH4.hcell 6
  by_cases ho:s.op=(k:Int)
  ·have HGE:=Lib.hid (show res=({ s with y:=yr.1,op:=-1 },c2,0) by rw [HG.out];simp [ho])
   have e1:(s.op == (k:Int))=true:=by simpa using ho
   have HH5:=Lib.hid (stO_set hH4 (.int .i64 (-1)))
   have HG5:=Lib.hid (hg4.setCell ⟨b,6,none⟩ (.int .i64 (-1)))
   have f6:=hH4.hfrozen 6
   have fl:=hH4.hlt
   generalize s.op=op at *
   clear hH4 hg4 ho
   go_wp2_with fail
   go_ret
   rw [HGE.out]
   refine ⟨_,[],_,Hc2,rfl,IsErr.none,⟨yb,mb,es,clock,Hy3,HY3.out,HOK.out,HSTM.out,HWF.out,HPL.out,⟨Int.le_refl _,by have:=plan_bd HPL.out;dsimp only;omega⟩,HYL.out,rfl⟩,HCH.out,?_,HG5.out⟩
   have h9:=HH5.out
   unfold stO
   exact h9.p
  ·have HGE:=Lib.hid (show res=({ s with y:=yr.1 },c2,0) by rw [HG.out];simp [ho])
   have e1:(s.op == (k:Int))=false:=by simpa using ho
   have HH5:=Lib.hid hH4
   have HG5:=Lib.hid hg4
   clear hH4 hg4 ho
   go_wp2_with fail
   go_ret
   rw [HGE.out]
   refine ⟨_,[],_,Hc2,rfl,IsErr.none,⟨yb,mb,es,clock,Hy3,HY3.out,HOK.out,HSTM.out,HWF.out,HPL.out,HOP.out,HYL.out,rfl⟩,HCH.out,?_,HG5.out⟩
   have h9:=HH5.out
   unfold stO
   exact h9.p
 ·have HGE:=Lib.hid (show res=(s,c2,code) by rw [HG.out,if_pos hc0])
  obtain ⟨be,se,rfl,rfl⟩:=isErrP8 he hc0
  have HH:=Lib.hid hH2
  have HE:=Lib.hid he
  clear hH2 he hch2 HM
  go_wp2_with fail
  go_ret
  rw [HGE.out]
  refine ⟨_,_,_,Hc2,rfl,HE.out,HST.out,HCH.out,?_,hg2⟩
  have h9:=HH.out
  unfold stO
  exact h9.p
end Go.Proofs.YtoelopghilbfeaaGreat
