/-
  Package nand: Erase, what it is, whatever befalls.
-/
import Derived.Test.YtoelopghilbfeaaGreatNd9
namespace Go.Proofs.YtoelopghilbfeaaGreat
open Go.RowKit
set_option linter.unusedSimpArgs false
set_option linter.unusedVariables false
set_option maxRecDepth 20000 in
theorem IsBys.copyAt {pv:Value} {ps:List (List UInt8)} {H:HL} (h:IsBys pv ps H) {i n:Nat} (hi:i<ps.length) (hn:ps[i].length=n) (hn0:0<n) :
  ∃ gp cp A q,pv=.slice (some ⟨gp,0,none⟩) ps.length cp∧q≤maxLen∧cp≤maxLen∧ps.length≤cp∧n≤q∧(∀ (w:World) (F:HL),Holds w (H++F)→w.cell? ⟨gp,i,none⟩=some (.slice (some ⟨A,0,none⟩) n q)) ∧
  ∀ (w:World) (F:HL) (src:Value) (m:Nat) (bs:List UInt8),Holds w (H++F)→ReadsAt w 1 src m (bs.map cellB)→m≤n →
   ∃ w' H',(Builtin.copy_ #[38,38] 3 #[.slice (some ⟨A,0,none⟩) n q,src]).run Tryz.prog w=.ok (.int .i64 (m:Int)) w' ∧
    IsBys pv (ps.set i (bs++ps[i].drop m)) H'∧Holds w' (H'++F)∧Grew w w':=by
 have hpi:ps[i]?=some ps[i]:=List.getElem?_eq_getElem hi
 obtain ⟨gp,cp,cs,Hi,Hr2,rfl,hc1,hc2,_,hcl,⟨v,rfl,hbv⟩,hcell,hopen,hput2,_⟩:=Rows2.open2 h hpi
 have hbv2:=hbv
 generalize ps[i]=old at *
 rcases hbv2.2 with ⟨_,h0,_⟩ | ⟨A,q,cur,fz,rfl,hq1,hq2,hq3,htk,hfz,rfl⟩
 ·omega
 ·rw [hn] at hq1 htk
  refine ⟨gp,cp,A,q,rfl,hq2,hc2,by omega,hq1,fun w F hH=>?_,fun w F src m bs hH hsrc hm=>?_⟩
  ·have h2:=hopen w _ hH
   have e0:=((hcell w _ h2.right).2 0 (by omega)).1
   rw [hn] at e0
   simpa using e0
  ·have h2:=hopen w _ hH
   have hbl:bs.length=m:=by have:=hsrc.1;simpa using this
   have hmin:min m n=m:=by omega
   have hrun:=run_copy_fz (P:=Tryz.prog) 38 38 3 5 tBytes.under (by kernel_rfl) (g:=A) (off:=0) (dLen:=n) (dCap:=q) (h2.get (List.mem_cons_self)) hfz hsrc (by omega) (by intro y hy;obtain ⟨z,_,rfl⟩:=List.mem_map.1 hy;rfl)
   rw [hmin] at hrun
   have hset:=Holds.setRow' (w:=w) (b:=A) (cs:=cur) (t:=5) (fz:=fz) (H:=Hr2++F) h2 (cur.toList.take 0++(bs.map cellB).take m++cur.toList.drop (0+m)).toArray
   have hsz:(cur.toList.take 0++(bs.map cellB).take m++cur.toList.drop (0+m)).toArray.size=cur.size:=by simp;omega
   have hnl:(bs++old.drop m).length=n:=by simp [hbl,hn];omega
   have hnew:IsBytes (.slice (some ⟨A,0,none⟩) n q) (bs++old.drop m) [(A,.cells (cur.toList.take 0++(bs.map cellB).take m++cur.toList.drop (0+m)).toArray 5 fz)]:=by
    unfold IsBytes
    rw [hnl]
    refine ⟨by simp [hbl,hn];omega,.inr ⟨A,q,_,fz,rfl,hq1,hq2,by rw [hsz];exact hq3,?_,by rw [hsz];exact hfz,rfl⟩⟩
    show List.take (n * 1) (cur.toList.take 0++(bs.map cellB).take m++cur.toList.drop (0+m))=(bs++old.drop m).map cellB
    have e1:(bs.map cellB).take m=bs.map cellB:=List.take_of_length_le (by simp;omega)
    rw [List.take_zero,List.nil_append,Nat.zero_add,e1,Nat.mul_one,List.take_append,List.take_of_length_le (by simp;omega),List.map_append]
    congr 1
    rw [List.length_map,hbl,List.map_drop,← htk,Nat.mul_one,List.drop_take]
   obtain ⟨H3,hr3,hH3⟩:=hput2 _ F (bs++old.drop m) _ ⟨_,rfl,by rw [hn];exact hnew⟩ (by simpa using hset)
   exact ⟨_,H3,hrun,hr3,by simp only [List.take_zero,List.nil_append,Nat.zero_add];exact hH3,(Grew.refl w).setRow _ _⟩
def fillTo (ps:List (List UInt8)) (j n:Nat) (u:UInt8):List (List UInt8):=List.replicate j (List.replicate n u)++ps.drop j
theorem fillTo_step {ps:List (List UInt8)} {j n:Nat} {u:UInt8} (h:j<ps.length):(fillTo ps j n u).set j (List.replicate n u)=fillTo ps (j+1) n u:=by
 unfold fillTo
 rw [List.drop_eq_getElem_cons h,List.set_append_right _ _ (by simp),List.length_replicate,Nat.sub_self,List.set_cons_zero,List.replicate_succ',List.append_assoc]
 rfl
theorem fillTo_get {ps:List (List UInt8)} {j n:Nat} {u:UInt8} (h:j<ps.length) (h2:j<(fillTo ps j n u).length):(fillTo ps j n u)[j]=ps[j]:=by
 simp [fillTo]
theorem fillTo_length {ps:List (List UInt8)} {j n:Nat} {u:UInt8} (h:j≤ps.length):(fillTo ps j n u).length=ps.length:=by
 unfold fillTo;simp;omega
theorem fillTo_all {ps:List (List UInt8)} {n:Nat} {u:UInt8}:fillTo ps ps.length n u=List.replicate ps.length (List.replicate n u):=by
 unfold fillTo;simp
def FillInv (pv:Value) (ps:List (List UInt8)) (n:Nat) (u:UInt8) (w:World) (B:HL) (iv:Value) (wr:World):Prop :=
 ∃ (j:Nat) (Hp F2:HL),j≤ps.length∧iv=.int .i64 j∧IsBys pv (fillTo ps j n u) Hp∧Holds wr (Hp++(F2++B))∧Grew w wr
def eraseEnd (c:CM) (m:Mi) (k:Nat) (x:CB):CM × Int :=
 if m.kind=2 then (if x.failed=true then ({ c with on:=false },4) else ({ c.setB k { x with pages:=List.replicate c.P (List.replicate (c.Z+28) m.fill),next:=if m.fill=255 then 0 else (c.P:Int),wear:=x.wear+1 } with on:=false },4))
 else if m.kind=1∨x.failed=true then (c.setB k { x with failed:=true },5)
 else (c.setB k { x with pages:=blankB c.P c.Z,next:=0,wear:=x.wear+1 },0)
def CM.erase (c:CM) (k:Nat) (x:CB):CM × Int :=
 let r:=c.beg true
 if r.2.2≠0 then (r.1,r.2.2) else if x.mark=true then r.1.ord r.2.1 false else eraseEnd r.1 r.2.1 k x
end Go.Proofs.YtoelopghilbfeaaGreat
