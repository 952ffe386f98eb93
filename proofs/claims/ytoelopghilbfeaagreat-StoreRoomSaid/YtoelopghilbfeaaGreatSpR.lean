/-
  Chapter 16, plain: the room behind a put; blocks that are wholly free.
-/
import Derived.Test.YtoelopghilbfeaaGreatSpY
import Derived.Test.YtoelopghilbfeaaGreatSpS
namespace Go.Proofs.YtoelopghilbfeaaGreat
open Go.RowKit
set_option linter.unusedSimpArgs false
set_option linter.unusedVariables false
variable {s s':SM} {c c':CM}
theorem cntTo_congr {f g:Nat→Bool} (n:Nat) (h:∀ j,j<n→f j=g j):cntTo f n=cntTo g n:=by
 unfold cntTo
 rw [List.filter_congr fun j hj=>h j (List.mem_range.1 hj)]
theorem empty_len (hC:Cont s c):(emptyL s c).length=cntTo (countB s c) s.B:=by
 unfold emptyL orderW
 rw [sortK_len]
 unfold countTo cntTo
 rw [List.length_map]
 have:(countsL s c).length=s.B:=by unfold countsL;rw [List.length_map,List.length_range]
 rw [this]
 congr 1
 refine List.filter_congr fun j hj=>?_
 have hj':=List.mem_range.1 hj
 unfold countsL
 rw [List.getD_eq_getElem?_getD,List.getElem?_map,List.getElem?_range (by omega)]
 rfl
theorem bool_iff {a b:Bool} (h:a=true↔b=true):a=b:=by cases a <;> cases b <;> simp_all
theorem put_room {N:Int} {h:Hd} {d:List UInt8} (hC:Cont s c) {r:SM × CM × Int × Int} {k p:Nat} {x x':CB} (hR:PutRes s c d h r) (g:PutCalm N s c d h r k p x x'):roomS r.1 r.2.1=roomS s c - 1:=by
 have hC':=hR.cont
 have hk:=g.kb
 have hi:=(List.getElem?_eq_some_iff.1 g.blk).1
 have hx':r.2.1.blocks[k]?=some x':=by rw [g.blks,set_at _ _ _ _ hi,if_pos rfl]
 have hl':leftI r.1 r.2.1=s.P - x'.next:=by rw [left_at hC' g.op hx',hR.P]
 have hnn:∀ j:Nat,j≠k→(noneed r.1 j↔noneed s j):=by
  intro j hj
  unfold noneed
  rw [hR.P,g.hs]
  constructor
  ·intro e q hq
   have:=e q hq
   rw [lookS_put h _ g.free] at this
   split at this
   ·exact absurd this (by simp)
   ·exact this
  ·intro e q hq
   rw [lookS_put h _ g.free,if_neg]
   ·exact e q hq
   ·intro e2
    exact hj (key_inj hq g.pb e2).1
 have hkn:countB r.1 r.2.1 k=false:=by
  cases e:countB r.1 r.2.1 k with
  |false=>rfl
  |true =>
   obtain ⟨_,h2,_⟩:=(countB_iff hC' hx').1 e
   have:=h2 p (by rw [hR.P];exact g.pb)
   rw [hR.P,g.hs,lookS_put h _ g.free,if_pos rfl] at this
   exact absurd this (by simp)
 have hop:∀ j:Nat,j≠k→r.1.op≠(j:Int):=fun j hj e=>hj (by have:=g.op;omega)
 have hoth:∀ j,j<s.B→j≠k→countB r.1 r.2.1 j=countB s c j:=by
  intro j hj hjk
  obtain ⟨y,hy⟩:=hC.bget hj
  have hy':r.2.1.blocks[j]?=some y:=by rw [g.blks,set_at _ _ _ _ hi,if_neg (fun e=>hjk e.symm)];exact hy
  refine bool_iff ?_
  rw [countB_iff hC' hy',countB_iff hC hy,hnn j hjk]
  have h1:s.op≠(j:Int)∨leftI s c=0:=by
   rcases g.way with ⟨_,u,_⟩ | ⟨u,_⟩
   ·exact Or.inl fun e=>hjk (by omega)
   ·exact Or.inr u
  constructor
  ·intro ⟨a,b,_⟩;exact ⟨a,b,h1⟩
  ·intro ⟨a,b,_⟩;exact ⟨a,b,Or.inl (hop j hjk)⟩
 unfold roomS
 rw [hl',empty_len hC',empty_len hC,hR.B,hR.P]
 have hnx:=g.next
 rcases g.way with ⟨u1,u2,u3,_⟩ | ⟨u1,u2,⟨L,u3⟩,_⟩
 ·have hks:countB s c k=false:=by
   cases e:countB s c k with
   |false=>rfl
   |true =>
    obtain ⟨_,_,h2⟩:=(countB_iff hC g.blk).1 e
    rcases h2 with h2 | h2
    ·exact absurd u2 h2
    ·exact absurd h2 u1
  have e1:cntTo (countB r.1 r.2.1) s.B=cntTo (countB s c) s.B:=cntTo_congr _ fun j hj=>by
   by_cases e:j=k
   ·rw [e,hkn,hks]
   ·exact hoth j hj e
  rw [e1,left_at hC u2 g.blk]
  omega
 ·have hks:countB s c k=true:=by
   obtain ⟨j,e,_,h2⟩:=(emptyL_mem hC).1 (show (k:Int)∈emptyL s c by rw [u3];exact List.mem_cons_self)
   have:j=k:=by omega
   rw [← this];exact h2
  have e1:=cntTo_flip (f:=countB r.1 r.2.1) (g:=countB s c) (k:=k) s.B (fun j hj e=>(hoth j hj e).symm) hkn hks
  rw [if_pos hk] at e1
  rw [e1,u1]
  generalize cntTo (countB r.1 r.2.1) s.B=E
  have:(s.P:Int) * ((E+1:Nat):Int)=s.P * (E:Int)+s.P:=by rw [Int.natCast_add,Int.mul_add];simp
  rw [this]
  omega
def freeB (s:SM) (c:CM) (j:Nat):Bool:=!c.markOf j && decide ((pagesOf s (j:Int)).length=0)
theorem freeB_iff (hC:Cont s c) {k:Nat} {x:CB} (hx:c.blocks[k]?=some x):freeB s c k=true↔x.mark=false∧noneed s k:=by
 have hk:k<s.B:=by rw [← hC.B];exact (List.getElem?_eq_some_iff.1 hx).1
 unfold freeB
 rw [mark_at hx]
 have e:(pagesOf s (k:Int)).length=0↔noneed s k:=by
  rw [← hC.needed_nil hk]
  unfold pagesOf
  rw [List.length_map]
  exact List.length_eq_zero_iff
 rw [Bool.and_eq_true,decide_eq_true_eq,e]
 simp
theorem room_ge (hC:Cont s c):(s.P:Int) * (cntTo (freeB s c) s.B:Int) - s.P≤roomS s c:=by
 have key:∀ n:Nat,n≤s.B→(cntTo (freeB s c) n:Int)≤cntTo (countB s c) n+(if s.op<n then 1 else 0):=by
  intro n
  induction n with
  |zero=>intro _;show ((0:Nat):Int)≤_;have:cntTo (countB s c) 0=0:=rfl;split <;> omega
  |succ n ih =>
   intro hn
   have IH:=ih (by omega)
   rw [cntTo_succ,cntTo_succ]
   obtain ⟨x,hx⟩:=hC.bget (k:=n) (by omega)
   cases hf:freeB s c n with
   |false =>
    rw [if_neg (by simp)]
    split at IH <;> split <;> split <;> omega
   |true =>
    rw [if_pos rfl]
    obtain ⟨h1,h2⟩:=(freeB_iff hC hx).1 hf
    by_cases ho:s.op=(n:Int)
    ·rw [if_neg (by omega)] at IH
     rw [if_pos (show s.op<((n+1:Nat):Int) by omega)]
     split <;> omega
    ·have:countB s c n=true:=(countB_iff hC hx).2 ⟨h1,h2,Or.inl ho⟩
     rw [if_pos this]
     split at IH <;> split <;> omega
 have K:=key s.B (Nat.le_refl _)
 rw [if_pos hC.opb.2] at K
 unfold roomS
 rw [empty_len hC]
 have hl:0≤leftI s c:=by
  unfold leftI
  split
  ·omega
  ·obtain ⟨k,hk⟩:∃ k:Nat,s.op=(k:Int):=⟨s.op.toNat,by have:=hC.opb;omega⟩
   obtain ⟨x,hx⟩:=hC.bget (k:=k) (by have:=hC.opb;omega)
   rw [hk,next_at hx]
   have:=(hC.shape k x hx).2.2.1
   omega
 generalize cntTo (freeB s c) s.B=A at *
 generalize cntTo (countB s c) s.B=E at *
 have h2:(s.P:Int) * (A:Int)≤s.P * ((E:Int)+1):=Int.mul_le_mul_of_nonneg_left K (by omega)
 rw [Int.mul_add] at h2
 omega
theorem leftI_nn (hC:Cont s c):0≤leftI s c:=by
 unfold leftI
 split
 ·omega
 ·obtain ⟨k,hk⟩:∃ k:Nat,s.op=(k:Int):=⟨s.op.toNat,by have:=hC.opb;omega⟩
  obtain ⟨x,hx⟩:=hC.bget (k:=k) (by have:=hC.opb;omega)
  rw [hk,next_at hx]
  have:=(hC.shape k x hx).2.2.1
  omega
structure RoomI (n:Int) (s:SM) (c:CM):Prop where
 cont:Cont s c
 live:Live s c
 geo:s.B=16∧s.P=4∧s.Z=128
 nf:NF c
 ms:c.ms=[]
 mis:c.misuse=0
 room:roomS s c=n
theorem RoomI.put {n:Int} (I:RoomI n s c) {h:Hd} {d:List UInt8} (hm:h.may=true) (hi:HdIn h) (hd:d.length=128) (hn:0<n) :
  (putA s c h d).2.2.2=0∧RoomI (n - 1) (putA s c h d).1 (putA s c h d).2.1∧(putA s c h d).2.1.ops≤c.ops+2:=by
 obtain ⟨hR,hw⟩:=put_calm (N:=c.ops+2) I.cont I.live ⟨by rw [I.ms];simp,I.nf⟩ (Int.le_refl _) hm hi (by rw [hd,I.geo.2.2])
 rcases hw with ⟨_,e1,e2⟩ | ⟨k,p,x,x',g⟩
 ·have:=I.room
  unfold roomS at this
  rw [e1,e2] at this
  simp at this
  omega
 ·refine ⟨by rw [g.code],⟨hR.cont,g.live,⟨hR.B.trans I.geo.1,hR.P.trans I.geo.2.1,hR.Z.trans I.geo.2.2⟩,g.calm.ok,hR.ms.trans I.ms,hR.mis.trans I.mis,?_⟩,g.ops.2⟩
  rw [put_room I.cont hR g,I.room]
theorem RoomI.full (I:RoomI 0 s c) {h:Hd} {d:List UInt8} (hm:h.may=true) (hi:HdIn h) (hd:d.length=128):putA s c h d=(s,c,0,7):=by
 obtain ⟨hR,hw⟩:=put_calm (N:=c.ops+2) I.cont I.live ⟨by rw [I.ms];simp,I.nf⟩ (Int.le_refl _) hm hi (by rw [hd,I.geo.2.2])
 rcases hw with ⟨e,_,_⟩ | ⟨k,p,x,x',g⟩
 ·exact e
 ·exfalso
  have h0:=I.room
  have h1:=leftI_nn I.cont
  unfold roomS at h0
  have h2:0≤(s.P:Int) * ((emptyL s c).length:Int):=Int.mul_nonneg (by omega) (by omega)
  rcases g.way with ⟨u1,_⟩ | ⟨u1,_,⟨L,u3⟩,_⟩
  ·omega
  ·rw [u3,List.length_cons,I.geo.2.1] at h0
   omega
theorem ScI.toRoom {f:Nat→Pg} {q:Int} (I:ScI f q s c) (hon:c.on=true) (hms:c.ms=[]) (hnf:NF c):RoomI (roomS s c) s c:=⟨I.cont,I.live hon,I.geo,hnf,hms,I.mis,rfl⟩
end Go.Proofs.YtoelopghilbfeaaGreat
