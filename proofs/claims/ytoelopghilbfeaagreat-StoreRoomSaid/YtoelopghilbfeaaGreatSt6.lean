/-
  Package store: take.
-/
import Derived.Test.YtoelopghilbfeaaGreatSt5
namespace Go.Proofs.YtoelopghilbfeaaGreat
open Go.RowKit
set_option linter.unusedSimpArgs false
set_option linter.unusedVariables false
variable {b cb g cap:Nat} {mv:Value} {c:CM} {s:SM} {H Hc Fr:HL} {w:World}
def CM.Sim (c c':CM) (n:Int):Prop:=c'.P=c.P∧c'.Z=c.Z∧c'.blocks.length=c.blocks.length∧c'.ms=c.ms∧c.ops≤c'.ops∧c'.ops≤c.ops+n
theorem CM.Sim.refl (c:CM):c.Sim c 0:=⟨rfl,rfl,rfl,rfl,Int.le_refl _,by omega⟩
theorem CM.Sim.trans {c1 c2 c3:CM} {n m:Int} (h:c1.Sim c2 n) (h2:c2.Sim c3 m):c1.Sim c3 (n+m):=by
 obtain ⟨a1,a2,a3,a4,a5,a6⟩:=h
 obtain ⟨b1,b2,b3,b4,b5,b6⟩:=h2
 exact ⟨b1.trans a1,b2.trans a2,b3.trans a3,b4.trans a4,by omega,by omega⟩
theorem CM.Sim.mono {c1 c2:CM} {n m:Int} (h:c1.Sim c2 n) (hm:n≤m):c1.Sim c2 m:=by
 obtain ⟨a1,a2,a3,a4,a5,a6⟩:=h
 exact ⟨a1,a2,a3,a4,a5,by omega⟩
theorem CM.beg_sim (c:CM) (good:Bool):c.Sim (c.beg good).1 1:=by
 unfold CM.beg
 split
 ·exact (CM.Sim.refl c).mono (by omega)
 ·split
  ·exact (CM.Sim.refl c).mono (by omega)
  ·exact ⟨rfl,rfl,rfl,rfl,by show c.ops≤c.ops+1;omega,by show c.ops+1≤c.ops+1;omega⟩
theorem CM.ord_sim (c:CM) (m:Mi) (good:Bool):c.Sim (c.ord m good).1 0:=by
 unfold CM.ord
 split
 ·exact CM.Sim.refl c
 ·split
  ·exact ⟨rfl,rfl,rfl,rfl,Int.le_refl _,by show c.ops≤c.ops+0;omega⟩
  ·exact ⟨rfl,rfl,rfl,rfl,Int.le_refl _,by show c.ops≤c.ops+0;omega⟩
theorem CM.setB_sim (c:CM) (k:Nat) (x:CB):c.Sim (c.setB k x) 0:=⟨rfl,rfl,by simp [CM.setB],rfl,Int.le_refl _,by show c.ops≤c.ops+0;omega⟩
theorem eraseEnd_sim (c:CM) (m:Mi) (k:Nat) (x:CB):c.Sim (eraseEnd c m k x).1 0:=by
 unfold eraseEnd
 split
 ·split
  ·exact ⟨rfl,rfl,rfl,rfl,Int.le_refl _,by show c.ops≤c.ops+0;omega⟩
  ·exact ⟨rfl,rfl,by simp [CM.setB],rfl,Int.le_refl _,by show c.ops≤c.ops+0;omega⟩
 ·split
  ·exact CM.setB_sim _ _ _
  ·exact CM.setB_sim _ _ _
theorem progEnd_sim (c:CM) (m:Mi) (k:Nat) (x:CB) (i:Nat) (raw:List UInt8):c.Sim (progEnd c m k x i raw).1 0:=by
 unfold progEnd
 split
 ·exact ⟨rfl,rfl,by simp [CM.setB],rfl,Int.le_refl _,by show c.ops≤c.ops+0;omega⟩
 ·split
  ·exact CM.setB_sim _ _ _
  ·exact ⟨rfl,rfl,by simp [CM.setB],rfl,Int.le_refl _,by show c.ops≤c.ops+0;omega⟩
theorem CM.erase_sim (c:CM) (k:Nat) (x:CB):c.Sim (c.erase k x).1 1:=by
 unfold CM.erase
 dsimp only
 split
 ·exact c.beg_sim true
 ·split
  ·exact (c.beg_sim true).trans (CM.ord_sim _ _ _)
  ·exact (c.beg_sim true).trans (eraseEnd_sim _ _ _ _)
theorem CM.prog_sim (c:CM) (k:Nat) (x:CB) (p:Int) (raw:List UInt8):c.Sim (c.prog k x p raw).1 1:=by
 unfold CM.prog
 dsimp only
 split
 ·exact c.beg_sim _
 ·split
  ·exact (c.beg_sim _).trans (CM.ord_sim _ _ _)
  ·exact (c.beg_sim _).trans (progEnd_sim _ _ _ _ _ _)
theorem CM.markE_sim (c:CM) (k:Nat) (x:CB):c.Sim (c.markE k x).1 1:=by
 unfold CM.markE
 dsimp only
 split
 ·exact c.beg_sim true
 ·split
  ·exact (c.beg_sim true).trans ⟨rfl,rfl,rfl,rfl,Int.le_refl _,by show (c.beg true).1.ops≤(c.beg true).1.ops+0;omega⟩
  ·exact (c.beg_sim true).trans (CM.setB_sim _ _ _)
theorem CM.read_sim (c:CM) (k p:Int):c.Sim (c.read k p).1 1:=by
 unfold CM.read
 dsimp only
 split
 ·exact c.beg_sim _
 ·split
  ·exact (c.beg_sim _).trans ⟨rfl,rfl,rfl,rfl,Int.le_refl _,by show (c.beg _).1.ops≤(c.beg _).1.ops+0;omega⟩
  ·exact c.beg_sim _
def RetSY (b cb:Nat) (s':SM) (code:Int) (w:World) (Fr:HL) (e:Ending) (w':World):Prop :=
 ∃ ve He H',e=.returned ve∧IsErr ve code He∧StAt b cb s' H'∧Holds w' (H'++(He++Fr))∧Grew w w'
theorem StAt.yard (h:StAt b cb s H):∃ yb mb,(∀ (w:World) (F:HL),Holds w (H++F)→w.cell? ⟨b,0,none⟩=some (.pointer (some ⟨yb,0,none⟩))∧w.cell? ⟨b,1,none⟩=some (.pointer (some ⟨cb,0,none⟩)) ∧
  w.cell? ⟨b,2,none⟩=some (.int .i64 (s.B:Int))∧w.cell? ⟨b,3,none⟩=some (.int .i64 (s.P:Int))∧w.cell? ⟨b,4,none⟩=some (.int .i64 (s.Z:Int))∧w.cell? ⟨b,5,none⟩=some (.map (some mb))∧w.cell? ⟨b,6,none⟩=some (.int .i64 s.op)) ∧
  ∀ (fn:FuncId) (args:Array Value) (r:List YB × Int),(∀ (Hy:HL) (w:World) (F:HL),IsYard (.pointer (some ⟨yb,0,none⟩)) s.y Hy→Holds w (Hy++F)→Calls Tryz.prog fn args w (RetYE (.pointer (some ⟨yb,0,none⟩)) r w F))→r.1.length=s.y.length →
   ∀ (w:World) (F:HL),Holds w (H++F)→Calls Tryz.prog fn args w (RetSY b cb { s with y:=r.1 } r.2 w F):=by
 obtain ⟨yb,mb,es,clock,Hy,hy,hok,hst,hwf,hpl,hop,hyl,rfl⟩:=h
 refine ⟨yb,mb,fun w F hX=>⟨hX.hcell 0,hX.hcell 1,hX.hcell 2,hX.hcell 3,hX.hcell 4,hX.hcell 5,hX.hcell 6⟩,fun fn args r hr hl w F hX=>?_⟩
 have h1:Holds w (Hy++((b,stO yb cb mb s)::((mb,.map es clock)::F))):=hX.p
 refine (hr Hy w _ hy h1).mono ?_
 rintro e w' ⟨ve,Hy',He,rfl,he,hy',hH',hg'⟩
 refine ⟨ve,He,(b,stO yb cb mb s)::((mb,.map es clock)::Hy'),rfl,he,⟨yb,mb,es,clock,Hy',hy',hok,hst,hwf,hpl,hop,hl.trans hyl,rfl⟩,hH'.p,hg'⟩
theorem StAt.setOp (h:StAt b cb s H) (op:Int) (h0:-1≤op) (h1:op<s.B):∃ H',StAt b cb { s with op:=op } H'∧∀ (w:World) (F:HL),Holds w (H++F)→Holds (w.setCell ⟨b,6,none⟩ (.int .i64 op)) (H'++F)∧w.frozen? ⟨b,6,none⟩=false∧b<w.heap.size:=by
 obtain ⟨yb,mb,es,clock,Hy,hy,hok,hst,hwf,hpl,hop,hyl,rfl⟩:=h
 refine ⟨(b,stO yb cb mb { s with op:=op })::((mb,.map es clock)::Hy),⟨yb,mb,es,clock,Hy,hy,hok,hst,hwf,hpl,⟨h0,h1⟩,hyl,rfl⟩,fun w F hX=>⟨?_,hX.hfrozen 6,hX.hlt⟩⟩
 unfold stO at hX ⊢
 exact stO_set hX (.int .i64 op)
theorem yturn_len (y:List YB) (k a d:Int):(Yturn y k a d).1.length=y.length:=by
 unfold Yturn
 split
 ·rfl
 ·split
  ·exact yset_len _ _ _
  ·rfl
theorem yopen_len (y:List YB) (k:Int):(Yopen y k).1.length=y.length:=by
 unfold Yopen
 split
 ·rfl
 ·split
  ·exact yset_len _ _ _
  ·rfl
theorem yfree_len (y:List YB) (k:Int):(Yfree y k).1.length=y.length:=by
 unfold Yfree
 split
 ·rfl
 ·split
  ·rfl
  ·exact yset_len _ _ _
theorem StAt.yards (h:StAt b cb s H):∃ yb mb,(∀ (w:World) (F:HL),Holds w (H++F)→w.cell? ⟨b,0,none⟩=some (.pointer (some ⟨yb,0,none⟩))∧w.cell? ⟨b,1,none⟩=some (.pointer (some ⟨cb,0,none⟩)) ∧
  w.cell? ⟨b,2,none⟩=some (.int .i64 (s.B:Int))∧w.cell? ⟨b,3,none⟩=some (.int .i64 (s.P:Int))∧w.cell? ⟨b,4,none⟩=some (.int .i64 (s.Z:Int))∧w.cell? ⟨b,5,none⟩=some (.map (some mb))∧w.cell? ⟨b,6,none⟩=some (.int .i64 s.op)) ∧
  (∀ (k:Int) (w:World) (F:HL),Holds w (H++F)→Calls Tryz.prog 76 #[.pointer (some ⟨yb,0,none⟩),.int .i64 k] w (RetSY b cb { s with y:=(Yturn s.y k 2 3).1 } (Yturn s.y k 2 3).2 w F)) ∧
  (∀ (k:Int) (w:World) (F:HL),Holds w (H++F)→Calls Tryz.prog 84 #[.pointer (some ⟨yb,0,none⟩),.int .i64 k] w (RetSY b cb { s with y:=(Yfree s.y k).1 } (Yfree s.y k).2 w F)) ∧
  (∀ (k:Int) (w:World) (F:HL),Holds w (H++F)→Calls Tryz.prog 75 #[.pointer (some ⟨yb,0,none⟩),.int .i64 k] w (RetSY b cb { s with y:=(Yopen s.y k).1 } (Yopen s.y k).2 w F)) ∧
  (∀ (k:Int) (w:World) (F:HL),Holds w (H++F)→Calls Tryz.prog 77 #[.pointer (some ⟨yb,0,none⟩),.int .i64 k] w (RetSY b cb { s with y:=(Yretire s.y k).1 } (Yretire s.y k).2 w F)):=by
 obtain ⟨yb,mb,hc,hf⟩:=h.yard
 exact ⟨yb,mb,hc,fun k w F hX=>hf _ _ _ (fun Hy w F hy hH=>yseal_any k hy hH) (yturn_len _ _ _ _) w F hX,
  fun k w F hX=>hf _ _ _ (fun Hy w F hy hH=>yfree_any k hy hH) (yfree_len _ _) w F hX,
  fun k w F hX=>hf _ _ _ (fun Hy w F hy hH=>yopen_any k hy hH) (yopen_len _ _) w F hX,
  fun k w F hX=>hf _ _ _ (fun Hy w F hy hH=>yretire_any k hy hH) (yretire_len _ _) w F hX⟩
def sealS (s:SM):SM:=if s.op=-1 then s else { s with y:=(Yturn s.y s.op 2 3).1 }
def freeS (s:SM) (k:Int):SM:={ s with y:=(Yfree s.y k).1 }
def ropenS (s:SM) (k:Int):SM:={ s with y:=(Yopen s.y k).1 }
def openS (s:SM) (k:Int):SM:={ ropenS (freeS (sealS s) k) k with op:=k }
def eraseI (c:CM) (k:Int):CM × Int:=match c.blk k with | some x=>c.erase k.toNat x | none=>(c,2)
def giveI (s:SM) (c:CM) (k:Int):SM × CM × Int:=match c.blk k with | some x=>giveS s c k.toNat x | none=>(s,c,2)
def takeL:List Int→SM→CM→SM × CM × Int
 |[],s,c=>(s,c,7)
 |k::ks,s,c =>
  if 0<c.nextOf k then
   if (eraseI c k).2=5 then
    if (giveI s (eraseI c k).1 k).2.2≠0 then giveI s (eraseI c k).1 k
    else takeL ks (giveI s (eraseI c k).1 k).1 (giveI s (eraseI c k).1 k).2.1
   else if (eraseI c k).2≠0 then (s,(eraseI c k).1,(eraseI c k).2)
   else (openS s k,(eraseI c k).1,0)
  else (openS s k,c,0)
def takeS (s:SM) (c:CM):SM × CM × Int:=takeL (emptyL s c) s c
theorem eraseI_sim (c:CM) (k:Int):c.Sim (eraseI c k).1 1:=by
 unfold eraseI
 split
 ·exact CM.erase_sim _ _ _
 ·exact (CM.Sim.refl c).mono (by omega)
theorem giveI_sim (s:SM) (c:CM) (k:Int):c.Sim (giveI s c k).2.1 1∧(giveI s c k).1.B=s.B:=by
 unfold giveI
 split
 ·unfold giveS
  split
  ·exact ⟨CM.markE_sim _ _ _,rfl⟩
  ·exact ⟨CM.markE_sim _ _ _,rfl⟩
 ·exact ⟨(CM.Sim.refl c).mono (by omega),rfl⟩
theorem blk_of {c:CM} {k:Int} (h:c.there k=true):∃ (i:Nat) (x:CB),k=i∧c.blocks[i]?=some x∧c.blk k=some x:=by
 have h1:=of_decide_eq_true h
 obtain ⟨i,rfl⟩:=Int.eq_ofNat_of_zero_le h1.1
 have h2:i<c.blocks.length:=by omega
 refine ⟨i,c.blocks[i],rfl,List.getElem?_eq_getElem h2,?_⟩
 unfold CM.blk
 rw [if_pos (by omega)]
 simp [h2]
theorem eraseI_any (k:Int) (hch:ChipAt cb g cap mv c Hc) (hH:Holds w (Hc++Fr)) (hops:c.ops<1000000000000) (hk:c.there k=true) :
  Calls Tryz.prog 83 #[.pointer (some ⟨cb,0,none⟩),.int .i64 k] w (RetChG cb g cap mv (eraseI c k) w Fr):=by
 obtain ⟨i,x,rfl,hx,hb⟩:=blk_of hk
 rw [show eraseI c (i:Int)=c.erase i x by unfold eraseI;rw [hb];rfl]
 exact nerase_full i x hch hH hops hx
theorem giveI_any (k:Int) (h:StAt b cb s H) (hch:ChipAt cb g cap mv c Hc) (hH:Holds w (H++(Hc++Fr))) (hops:c.ops<1000000000000) (hk:c.there k=true) :
  Calls Tryz.prog 52 #[.pointer (some ⟨b,0,none⟩),.int .i64 k] w (RetSE b cb g cap mv (giveI s c k).1 (giveI s c k).2.1 (giveI s c k).2.2 w Fr):=by
 obtain ⟨i,x,rfl,hx,hb⟩:=blk_of hk
 rw [show giveI s c (i:Int)=giveS s c i x by unfold giveI;rw [hb];rfl]
 exact give_any i x h hch hH hops hx
theorem code_any (v:Value) (k:Int) (He F:HL) (w:World) (h:IsErr v k He) (hH:Holds w (He++F)):Calls Tryz.prog 50 #[v] w fun e w'=>e=.returned (.int .i64 k)∧w=w':=by
 rcases h with ⟨rfl,rfl,rfl⟩ | ⟨hc,b,s,rfl,rfl⟩
 ·have k1:=nil_eq
  go_enter Tryz.func50,Tryz.ntmps50
  go_wp2
  go_ret
  exact ⟨rfl,rfl⟩
 ·exact code_some b k w (hH.cell (List.mem_cons_self) 0)
end Go.Proofs.YtoelopghilbfeaaGreat
