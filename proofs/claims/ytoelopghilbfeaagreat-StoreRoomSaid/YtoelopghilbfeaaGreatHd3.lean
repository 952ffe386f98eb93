/-
  Package head: Read.
-/
import Derived.Test.YtoelopghilbfeaaGreatHdA
import Derived.Laws.EntriesVeiled
namespace Go.Proofs.YtoelopghilbfeaaGreat
open Go.RowKit
set_option linter.unusedSimpArgs false
set_option linter.unusedVariables false
def hdOf (raw:List UInt8) (n:Nat):Hd:=⟨((raw.getD n 0).toNat:Int),bigN ((raw.drop (n+1)).take 8),bigN ((raw.drop (n+9)).take 5),bigN ((raw.drop (n+14)).take 3)⟩
def readF (raw:List UInt8):Option (List UInt8 × Hd) :=
 if sizedB ((raw.length:Int) - 28)=true∧(hdOf raw (raw.length - 28)).may=true∧layL (raw.take (raw.length - 28)) (hdOf raw (raw.length - 28))=raw then some (raw.take (raw.length - 28),hdOf raw (raw.length - 28)) else none
def ReadNo (w:World) (Fr:HL) (e:Ending) (w':World):Prop:=∃ st:Int,st≠1∧e=.returned (.tuple #[.slice none 0 0,Hd.zero.agg,.int .i64 st])∧Holds w' Fr∧Grew w w'
def ReadYes (d:List UInt8) (h:Hd) (w:World) (Fr:HL) (e:Ending) (w':World):Prop:=∃ v' H',e=.returned (.tuple #[v',h.agg,.int .i64 1])∧IsBytes v' d H'∧Holds w' (H'++Fr)∧Grew w w'
theorem bigN_lt {bs:List UInt8} (h:bs.length≤5):bigN bs<1099511627776:=by
 have h1:=(bigN_bd bs).2
 have h2:(256:Int) ^ bs.length≤1099511627776:=by
  rcases (show bs.length=0∨bs.length=1∨bs.length=2∨bs.length=3∨bs.length=4∨bs.length=5 by omega) with e | e | e | e | e | e <;> rw [e] <;> decide
 omega
theorem BytesAt.pre {w:World} {A:Option Addr} {n c m:Nat} {bs:List UInt8} (h:BytesAt w (.slice A n c) bs) (hm:m≤bs.length):BytesAt w (.slice A m c) (bs.take m):=by
 obtain ⟨_,A',c',hv,h1,h2,h3⟩:=h
 injection hv with e1 e2 e3
 subst e1 e2 e3
 have hl:(bs.take m).length=m:=by rw [List.length_take];omega
 refine ⟨by simp,A,c,by rw [hl],by omega,h2,fun h0=>?_⟩
 obtain ⟨b,o,rfl,hc⟩:=h3 (by omega)
 refine ⟨b,o,rfl,fun j u hu=>hc j u ?_⟩
 rw [List.map_take,List.getElem?_take] at hu
 split at hu
 ·exact hu
 ·cases hu
theorem results_tct {fn:Func} {p q r:Tmp} {ty:TypeId} (h:fn.results=#[.tmp p,.cell q ty,.tmp r]) (tmps:Array Value) (P:Program) (w:World) :
  (results fn tmps).run P w=((asAddr (tmps.getD q undef)).run P w).andThen fun a w₁=>((loadVar ty a).run P w₁).andThen fun v w₂=>.ok (.tuple #[tmps.getD p undef,v,tmps.getD r undef]) w₂:=by
 simp [results,h]
theorem isErr2 {v:Value} {c:Int} {H:HL} (h:IsErr v c H) (hc:c≠0:=by decide):∃ b s,v=.iface 117 (.pointer (some ⟨b,0,none⟩))∧H=[(b,.cells #[.int .i64 c,.string s] 119)]:=by
 rcases h with ⟨h,_,_⟩ | ⟨_,b,s,h1,h2⟩
 ·exact absurd h hc
 ·exact ⟨b,s,h1,h2⟩
theorem hset {w:World} {g:Nat} {x0 x1 x2 x3:Value} {Fr:HL} (h:Holds w ((g,.cells #[x0,x1,x2,x3] 37)::Fr)):w.cell? ⟨g,0,none⟩=some x0∧w.cell? ⟨g,1,none⟩=some x1∧w.cell? ⟨g,2,none⟩=some x2∧w.cell? ⟨g,3,none⟩=some x3∧w.frozen? ⟨g,0,none⟩=false∧w.frozen? ⟨g,1,none⟩=false∧w.frozen? ⟨g,2,none⟩=false∧w.frozen? ⟨g,3,none⟩=false :=
 ⟨h.hcell 0,h.hcell 1,h.hcell 2,h.hcell 3,h.hfrozen 0,h.hfrozen 1,h.hfrozen 2,h.hfrozen 3⟩
theorem rd1_any (g:Nat) (v:Int) (x0 x1 x2 x3:Value) (w:World) (Fr:HL) (h:Holds w ((g,.cells #[x0,x1,x2,x3] 37)::Fr)) :
  Calls Tryz.prog 95 #[.int .u64 v,.pointer (some ⟨g,0,none⟩)] w fun e w'=>e=.returned (.tuple #[])∧Holds w' ((g,.cells #[x0,.int .u64 v,x2,x3] 37)::Fr)∧Grew w w':=by
 have hs:=h.set' 1 (.int .u64 v)
 have hg:=(Grew.refl w).setCell ⟨g,1,none⟩ (.int .u64 v)
 obtain ⟨y0,y1,y2,y3,f0,f1,f2,f3⟩:=hset h
 have hl:=h.hlt
 have HS:=Lib.hid hs
 have HG:=Lib.hid hg
 clear h hs hg
 go_enter Tryz.func95,Tryz.ntmps95
 go_wp2_with fail
 go_end0
 exact ⟨rfl,HS.out,HG.out⟩
theorem rd2_any (g:Nat) (v:Int) (x0 x1 x2 x3:Value) (w:World) (Fr:HL) (h:Holds w ((g,.cells #[x0,x1,x2,x3] 37)::Fr)) (h0:0≤v) (h1:v<1099511627776) :
  Calls Tryz.prog 96 #[.int .u64 v,.pointer (some ⟨g,0,none⟩)] w fun e w'=>e=.returned (.tuple #[])∧Holds w' ((g,.cells #[x0,x1,.int .i64 v,x3] 37)::Fr)∧Grew w w':=by
 have hs:=h.set' 2 (.int .i64 v)
 have hg:=(Grew.refl w).setCell ⟨g,2,none⟩ (.int .i64 v)
 obtain ⟨y0,y1,y2,y3,f0,f1,f2,f3⟩:=hset h
 have hl:=h.hlt
 have HS:=Lib.hid hs
 have HG:=Lib.hid hg
 clear h hs hg
 go_enter Tryz.func96,Tryz.ntmps96
 go_wp2_with fail
 go_end0
 exact ⟨rfl,HS.out,HG.out⟩
theorem rd3_any (g:Nat) (v:Int) (x0 x1 x2 x3:Value) (w:World) (Fr:HL) (h:Holds w ((g,.cells #[x0,x1,x2,x3] 37)::Fr)) (h0:0≤v) (h1:v<1099511627776) :
  Calls Tryz.prog 97 #[.int .u64 v,.pointer (some ⟨g,0,none⟩)] w fun e w'=>e=.returned (.tuple #[])∧Holds w' ((g,.cells #[x0,x1,x2,.int .i64 v] 37)::Fr)∧Grew w w':=by
 have hs:=h.set' 3 (.int .i64 v)
 have hg:=(Grew.refl w).setCell ⟨g,3,none⟩ (.int .i64 v)
 obtain ⟨y0,y1,y2,y3,f0,f1,f2,f3⟩:=hset h
 have hl:=h.hlt
 have HS:=Lib.hid hs
 have HG:=Lib.hid hg
 clear h hs hg
 go_enter Tryz.func97,Tryz.ntmps97
 go_wp2_with fail
 go_end0
 exact ⟨rfl,HS.out,HG.out⟩
def offN (n:Nat):Nat→Nat
 |0=>n+1
 |1=>n+9
 |2=>n+14
 |_=>n+17
def hdC (raw:List UInt8) (n:Nat) (k:Nat):Array Value :=
 #[.int .i64 0,.int .u64 (if 1≤k then (hdOf raw n).a else 0),.int .i64 (if 2≤k then (hdOf raw n).s else 0),.int .i64 (if 3≤k then (hdOf raw n).g else 0)]
def RdTo (raw:List UInt8) (n:Nat) (r0:Value) (g:Nat) (R:HL) (w:World) (v i:Value) (wr:World):Prop :=
 ∃ (k:Nat) (H:HL),k≤3∧i=.int .i64 k∧((k=0∧v=r0∧H=[])∨(1≤k∧IsBytes v (raw.drop (offN n k)) H))∧Holds wr (H++((g,.cells (hdC raw n k) 37)::R))∧Grew w wr
def ReadQ (p:Option (List UInt8 × Hd)) (w:World) (Fr:HL) (e:Ending) (w':World):Prop:=match p with | some q=>ReadYes q.1 q.2 w Fr e w' | none=>ReadNo w Fr e w'
set_option maxRecDepth 20000 in
set_option maxHeartbeats 16000000 in
theorem read_any (v:Value) (raw:List UInt8) (w:World) (Fr:HL) (hb:FrBytes Fr v raw) (hH:Holds w Fr) (hl:raw.length≤1000) :
  Calls Tryz.prog 57 #[v] w (ReadQ (readF raw) w Fr):=by
 obtain ⟨A,c,rfl⟩:=(hb w hH).val
 obtain ⟨rf,hrf⟩:∃ rf,rf=readF raw:=⟨_,rfl⟩
 rw [← hrf]
 have HRF:=Lib.hid hrf
 clear hrf
 by_cases hsz:sizedB ((raw.length:Int) - 28)=true
 rotate_left
 ·have hs0:sizedB ((raw.length:Int) - 28)=false:=by simpa using hsz
  have HD2:=Lib.hid (show readF raw=none by unfold readF;rw [if_neg (fun h=>hsz h.1)])
  have HRF2:=Lib.hid (HRF.out.trans HD2.out)
  have HS:=Lib.hid (fun w=>sized_any ((raw.length:Int) - 28) w)
  rw [hs0] at HS
  have hq:=hH.alloc (.cells #[.int .i64 0,.int .u64 0,.int .i64 0,.int .i64 0] 37)
  have hgq:=(Grew.refl w).alloc (.cells #[.int .i64 0,.int .u64 0,.int .i64 0,.int .i64 0] 37)
  have HFIN:=Lib.hid (((((hq.set' 0 (.int .i64 0)).set' 1 (.int .u64 0)).set' 2 (.int .i64 0)).set' 3 (.int .i64 0)))
  have HGF:=Lib.hid ((((hgq.setCell ⟨w.heap.size,0,none⟩ (.int .i64 0)).setCell ⟨w.heap.size,1,none⟩ (.int .u64 0)).setCell ⟨w.heap.size,2,none⟩ (.int .i64 0)).setCell ⟨w.heap.size,3,none⟩ (.int .i64 0))
  have HH:=Lib.hid hq
  clear hsz hs0 hb hgq
  generalize raw.length=ln at *
  go_enter Tryz.func57,Tryz.ntmps57
  go_wp2_with fail
  refine (HS.out _).mono ?_
  rintro e w' ⟨rfl,rfl⟩
  generalize w.alloc (.cells #[.int .i64 0,.int .u64 0,.int .i64 0,.int .i64 0] 37)=w0 at *
  generalize w.heap.size=g3 at *
  obtain ⟨x0,x1,x2,x3,f0,f1,f2,f3⟩:=hset hq
  have fl:=hq.hlt
  clear hq hH
  go_wp2_with fail
  refine ⟨rfl,_,(by rw [results_tct rfl];go_simp;rfl),?_⟩
  rw [HRF2.out]
  exact ⟨2,by decide,rfl,HFIN.out.tail,HGF.out⟩
 ·have hn:∃ n:Nat,raw.length=n+28∧128≤n∧n≤256:=by
   unfold sizedB at hsz
   simp only [Bool.and_eq_true,decide_eq_true_eq] at hsz
   exact ⟨raw.length - 28,by omega,by omega,by omega⟩
  obtain ⟨n,hrl,hn1,hn2⟩:=hn
  have HS:=Lib.hid (fun w=>sized_any n w)
  rw [show sizedB (n:Int)=true by unfold sizedB;simp;omega] at HS
  have HRL:=Lib.hid hrl
  have HB:=Lib.hid hb
  obtain ⟨b,o,rfl,hcc,hcm⟩:∃ b o,A=some ⟨b,o,none⟩∧n+28≤c∧c≤maxLen:=by
   obtain ⟨_,A',c',hv,h1,h2,ha⟩:=hb w hH
   injection hv with hv1 _ hv3
   obtain ⟨b,o,h,_⟩:=ha (by omega)
   exact ⟨b,o,by rw [hv1,h],by omega,by omega⟩
  unfold maxLen at hcm
  have hcn:¬ n+1=c:=by omega
  have e28:(raw.length:Int) - 28=(n:Int):=by omega
  clear hsz hb
  go_enter Tryz.func57,Tryz.ntmps57
  go_wp2_with fail
  refine (HS.out _).mono ?_
  rintro e w' ⟨rfl,rfl⟩
  have hX:=((hH.alloc (.cells #[.int .i64 0,.int .u64 0,.int .i64 0,.int .i64 0] 37)).alloc (.cells #[.int .i64 0,.int .u64 0,.int .i64 0,.int .i64 0] 37)).alloc (.cells #[.int .i64 8,.func (Fn.func 95) #[] #[.pointer (some ⟨w.heap.size+1,0,none⟩)],.int .i64 5,.func (Fn.func 96) #[] #[.pointer (some ⟨w.heap.size+1,0,none⟩)],.int .i64 3,.func (Fn.func 97) #[] #[.pointer (some ⟨w.heap.size+1,0,none⟩)]] 151)
  simp only [World.size_alloc] at hX
  have hgx:=(((Grew.refl w).alloc (.cells #[.int .i64 0,.int .u64 0,.int .i64 0,.int .i64 0] 37)).alloc (.cells #[.int .i64 0,.int .u64 0,.int .i64 0,.int .i64 0] 37)).alloc (.cells #[.int .i64 8,.func (Fn.func 95) #[] #[.pointer (some ⟨w.heap.size+1,0,none⟩)],.int .i64 5,.func (Fn.func 96) #[] #[.pointer (some ⟨w.heap.size+1,0,none⟩)],.int .i64 3,.func (Fn.func 97) #[] #[.pointer (some ⟨w.heap.size+1,0,none⟩)]] 151)
  have HR0:=Lib.hid (show ∀ wx:World,Holds wx Fr→BytesAt wx (.slice (some ⟨b,o+(n+1),none⟩) 27 (c - (n+1))) (raw.drop (n+1)) by
   intro wx hx
   have h:=(HB.out wx hx)
   rw [hrl] at h
   have h2:=BytesAt.drop h (k:=n+1) (by omega)
   have e1:n+28 - (n+1)=27:=by omega
   rw [e1] at h2
   simpa [addr_add_lit] using h2)
  have HX:=Lib.hid hX
  have HG:=Lib.hid hgx
  clear hX hgx
  go_wp2_with fail
  go_loopw [7,34] (fun v i wr=>RdTo raw n (.slice (some ⟨b,o+(n+1),none⟩) 27 (c - (n+1))) (w.heap.size+1) ((w.heap.size+1+1,(.cells #[.int .i64 8,.func (Fn.func 95) #[] #[.pointer (some ⟨w.heap.size+1,0,none⟩)],.int .i64 5,.func (Fn.func 96) #[] #[.pointer (some ⟨w.heap.size+1,0,none⟩)],.int .i64 3,.func (Fn.func 97) #[] #[.pointer (some ⟨w.heap.size+1,0,none⟩)]] 151))::((w.heap.size,(.cells #[.int .i64 0,.int .u64 0,.int .i64 0,.int .i64 0] 37))::Fr)) w v i wr) (fun _ i _=>3 - (intOf i).toNat)
  case atStart =>
   have h:Holds _ (([]:HL)++((w.heap.size+1,(.cells #[.int .i64 0,.int .u64 0,.int .i64 0,.int .i64 0] 37))::((w.heap.size+1+1,(.cells #[.int .i64 8,.func (Fn.func 95) #[] #[.pointer (some ⟨w.heap.size+1,0,none⟩)],.int .i64 5,.func (Fn.func 96) #[] #[.pointer (some ⟨w.heap.size+1,0,none⟩)],.int .i64 3,.func (Fn.func 97) #[] #[.pointer (some ⟨w.heap.size+1,0,none⟩)]] 151))::((w.heap.size,(.cells #[.int .i64 0,.int .u64 0,.int .i64 0,.int .i64 0] 37))::Fr)))):=HX.out.p
   exact ⟨0,[],by omega,rfl,.inl ⟨rfl,rfl,rfl⟩,h,HG.out⟩
  case round =>
   clear hH
   generalize w.heap.size+1+1=gL at *
   generalize w.heap.size+1=g6 at *
   generalize w.heap.size=g3 at *
   obtain ⟨k,H,hk,rfl,hv,hHr,hgr⟩:=hrel
   rcases (show k=0∨k=1∨k=2∨k=3 by omega) with rfl | rfl | rfl | rfl
   ·have hv0:=hv.resolve_right (fun h=>absurd h.1 (by omega))
    obtain ⟨_,rfl,rfl⟩:=hv0
    have hH0:Holds wr (([]:HL)++((g6,(.cells #[.int .i64 0,.int .u64 0,.int .i64 0,.int .i64 0] 37))::((gL,(.cells #[.int .i64 8,.func (Fn.func 95) #[] #[.pointer (some ⟨g6,0,none⟩)],.int .i64 5,.func (Fn.func 96) #[] #[.pointer (some ⟨g6,0,none⟩)],.int .i64 3,.func (Fn.func 97) #[] #[.pointer (some ⟨g6,0,none⟩)]] 151))::((g3,(.cells #[.int .i64 0,.int .u64 0,.int .i64 0,.int .i64 0] 37))::Fr)))):=hHr
    have hBA:=HR0.out _ (hH0.alloc (.cells #[.int .i64 8,.func (Fn.func 95) #[] #[.pointer (some ⟨g6,0,none⟩)]] 151)).tail.right.tail.tail.tail
    have hA:=hH0.alloc (.cells #[.int .i64 8,.func (Fn.func 95) #[] #[.pointer (some ⟨g6,0,none⟩)]] 151)
    have hgA:=hgr.alloc (.cells #[.int .i64 8,.func (Fn.func 95) #[] #[.pointer (some ⟨g6,0,none⟩)]] 151)
    have x0:=hH0.right.tail.hcell 0
    have x1:=hH0.right.tail.hcell 1
    have hdl:(raw.drop (n+1)).length=27:=by simp only [List.length_drop];omega
    have HU:=Lib.hid (unfix_any _ (raw.drop (n+1)) 8 (wr.alloc (.cells #[.int .i64 8,.func (Fn.func 95) #[] #[.pointer (some ⟨g6,0,none⟩)]] 151)) _ hBA hA (by omega) (by omega) (by omega))
    have z0:=hA.hcell 0
    have z1:=hA.hcell 1
    clear hHr hv hH0 hBA hA hdl
    go_wp2_with fail
    refine HU.out.mono ?_
    rintro e w2 ⟨v2,H2,rfl,hb2,hH2,hg2⟩
    obtain ⟨A2,c2,rfl⟩:=hb2.val
    have hF:=hH2.right
    have y0:=hF.hcell 0
    have y1:=hF.hcell 1
    have hC:Holds w2 ((g6,(.cells #[.int .i64 0,.int .u64 0,.int .i64 0,.int .i64 0] 37))::(H2++((gL,(.cells #[.int .i64 8,.func (Fn.func 95) #[] #[.pointer (some ⟨g6,0,none⟩)],.int .i64 5,.func (Fn.func 96) #[] #[.pointer (some ⟨g6,0,none⟩)],.int .i64 3,.func (Fn.func 97) #[] #[.pointer (some ⟨g6,0,none⟩)]] 151))::((g3,(.cells #[.int .i64 0,.int .u64 0,.int .i64 0,.int .i64 0] 37))::Fr)))):=by
     have h:Holds w2 (H2++((wr.heap.size,(.cells #[.int .i64 8,.func (Fn.func 95) #[] #[.pointer (some ⟨g6,0,none⟩)]] 151))::(([]:HL)++((g6,(.cells #[.int .i64 0,.int .u64 0,.int .i64 0,.int .i64 0] 37))::((gL,(.cells #[.int .i64 8,.func (Fn.func 95) #[] #[.pointer (some ⟨g6,0,none⟩)],.int .i64 5,.func (Fn.func 96) #[] #[.pointer (some ⟨g6,0,none⟩)],.int .i64 3,.func (Fn.func 97) #[] #[.pointer (some ⟨g6,0,none⟩)]] 151))::((g3,(.cells #[.int .i64 0,.int .u64 0,.int .i64 0,.int .i64 0] 37))::Fr)))))):=hH2
     exact h.p
    have HCL:=Lib.hid (show Calls Tryz.prog 95 #[.int .u64 (bigN ((raw.drop (n+1)).take 8)),.pointer (some ⟨g6,0,none⟩)] w2 _ from rd1_any g6 (hdOf raw n).a _ _ _ _ w2 _ hC)
    have HB2:Hid (IsBytes (.slice A2 ((raw.drop (n+1)).drop 8).length c2) (raw.drop (n+9)) H2):=Lib.hid (by
     have e1:(raw.drop (n+1)).drop 8=raw.drop (n+9):=by rw [List.drop_drop]
     rw [e1] at hb2 ⊢
     exact hb2)
    have hgF:=hgA.trans hg2
    clear HU z0 z1 x0 x1 hb2 hH2 hF hC hgA hg2 hgr
    generalize ((raw.drop (n+1)).drop 8).length=ln at *
    go_wp2_with fail
    refine HCL.out.mono ?_
    rintro e w3 ⟨rfl,hH3,hg3⟩
    have hgG:=hgF.trans hg3
    clear HCL y0 y1 hgF hg3
    go_wp2_with fail
    go_roundw
    case rel =>
     have hE:Holds w3 (H2++((g6,(.cells #[.int .i64 0,.int .u64 (hdOf raw n).a,.int .i64 0,.int .i64 0] 37))::((gL,(.cells #[.int .i64 8,.func (Fn.func 95) #[] #[.pointer (some ⟨g6,0,none⟩)],.int .i64 5,.func (Fn.func 96) #[] #[.pointer (some ⟨g6,0,none⟩)],.int .i64 3,.func (Fn.func 97) #[] #[.pointer (some ⟨g6,0,none⟩)]] 151))::((g3,(.cells #[.int .i64 0,.int .u64 0,.int .i64 0,.int .i64 0] 37))::Fr)))):=hH3.p
     exact ⟨1,H2,by omega,by go_num,.inr ⟨by omega,HB2.out⟩,hE,hgG⟩
    case measure=>simp [intOf]
   ·have hvb:=(hv.resolve_left (fun h=>absurd h.1 (by omega))).2
    obtain ⟨Ak,ck,rfl⟩:=hvb.val
    generalize hlk:(raw.drop (offN n 1)).length=lk at *
    clear hlk
    have hH0:Holds wr (H++((g6,(.cells #[.int .i64 0,.int .u64 (hdOf raw n).a,.int .i64 0,.int .i64 0] 37))::((gL,(.cells #[.int .i64 8,.func (Fn.func 95) #[] #[.pointer (some ⟨g6,0,none⟩)],.int .i64 5,.func (Fn.func 96) #[] #[.pointer (some ⟨g6,0,none⟩)],.int .i64 3,.func (Fn.func 97) #[] #[.pointer (some ⟨g6,0,none⟩)]] 151))::((g3,(.cells #[.int .i64 0,.int .u64 0,.int .i64 0,.int .i64 0] 37))::Fr)))):=hHr
    have hBA:=hvb.at_ (hH0.alloc (.cells #[.int .i64 5,.func (Fn.func 96) #[] #[.pointer (some ⟨g6,0,none⟩)]] 151)).tail
    simp only [offN] at hBA
    have hA:=hH0.alloc (.cells #[.int .i64 5,.func (Fn.func 96) #[] #[.pointer (some ⟨g6,0,none⟩)]] 151)
    have hgA:=hgr.alloc (.cells #[.int .i64 5,.func (Fn.func 96) #[] #[.pointer (some ⟨g6,0,none⟩)]] 151)
    have x0:=hH0.right.tail.hcell 2
    have x1:=hH0.right.tail.hcell 3
    have hdl:(raw.drop (n+9)).length=19:=by simp only [List.length_drop];omega
    have HU:=Lib.hid (unfix_any _ (raw.drop (n+9)) 5 (wr.alloc (.cells #[.int .i64 5,.func (Fn.func 96) #[] #[.pointer (some ⟨g6,0,none⟩)]] 151)) _ hBA hA (by omega) (by omega) (by omega))
    have z0:=hA.hcell 0
    have z1:=hA.hcell 1
    clear hHr hv hH0 hBA hA hdl
    go_wp2_with fail
    refine HU.out.mono ?_
    rintro e w2 ⟨v2,H2,rfl,hb2,hH2,hg2⟩
    obtain ⟨A2,c2,rfl⟩:=hb2.val
    have hF:=hH2.right
    have y0:=hF.hcell 0
    have y1:=hF.hcell 1
    have hC:Holds w2 ((g6,(.cells #[.int .i64 0,.int .u64 (hdOf raw n).a,.int .i64 0,.int .i64 0] 37))::(H2++((gL,(.cells #[.int .i64 8,.func (Fn.func 95) #[] #[.pointer (some ⟨g6,0,none⟩)],.int .i64 5,.func (Fn.func 96) #[] #[.pointer (some ⟨g6,0,none⟩)],.int .i64 3,.func (Fn.func 97) #[] #[.pointer (some ⟨g6,0,none⟩)]] 151))::((g3,(.cells #[.int .i64 0,.int .u64 0,.int .i64 0,.int .i64 0] 37))::Fr)))):=by
     have h:Holds w2 (H2++((wr.heap.size,(.cells #[.int .i64 5,.func (Fn.func 96) #[] #[.pointer (some ⟨g6,0,none⟩)]] 151))::(H++((g6,(.cells #[.int .i64 0,.int .u64 (hdOf raw n).a,.int .i64 0,.int .i64 0] 37))::((gL,(.cells #[.int .i64 8,.func (Fn.func 95) #[] #[.pointer (some ⟨g6,0,none⟩)],.int .i64 5,.func (Fn.func 96) #[] #[.pointer (some ⟨g6,0,none⟩)],.int .i64 3,.func (Fn.func 97) #[] #[.pointer (some ⟨g6,0,none⟩)]] 151))::((g3,(.cells #[.int .i64 0,.int .u64 0,.int .i64 0,.int .i64 0] 37))::Fr)))))):=hH2
     exact h.p
    have HCL:=Lib.hid (show Calls Tryz.prog 96 #[.int .u64 (bigN ((raw.drop (n+9)).take 5)),.pointer (some ⟨g6,0,none⟩)] w2 _ from rd2_any g6 (hdOf raw n).s _ _ _ _ w2 _ hC (bigN_bd _).1 (bigN_lt (by simp only [List.length_take];omega)))
    have HB2:Hid (IsBytes (.slice A2 ((raw.drop (n+9)).drop 5).length c2) (raw.drop (n+14)) H2):=Lib.hid (by
     have e1:(raw.drop (n+9)).drop 5=raw.drop (n+14):=by rw [List.drop_drop]
     rw [e1] at hb2 ⊢
     exact hb2)
    have hgF:=hgA.trans hg2
    clear HU z0 z1 x0 x1 hb2 hH2 hF hC hgA hg2 hgr
    generalize ((raw.drop (n+9)).drop 5).length=ln at *
    go_wp2_with fail
    refine HCL.out.mono ?_
    rintro e w3 ⟨rfl,hH3,hg3⟩
    have hgG:=hgF.trans hg3
    clear HCL y0 y1 hgF hg3
    go_wp2_with fail
    go_roundw
    case rel =>
     have hE:Holds w3 (H2++((g6,(.cells #[.int .i64 0,.int .u64 (hdOf raw n).a,.int .i64 (hdOf raw n).s,.int .i64 0] 37))::((gL,(.cells #[.int .i64 8,.func (Fn.func 95) #[] #[.pointer (some ⟨g6,0,none⟩)],.int .i64 5,.func (Fn.func 96) #[] #[.pointer (some ⟨g6,0,none⟩)],.int .i64 3,.func (Fn.func 97) #[] #[.pointer (some ⟨g6,0,none⟩)]] 151))::((g3,(.cells #[.int .i64 0,.int .u64 0,.int .i64 0,.int .i64 0] 37))::Fr)))):=hH3.p
     exact ⟨2,H2,by omega,by go_num,.inr ⟨by omega,HB2.out⟩,hE,hgG⟩
    case measure=>simp [intOf]
   ·have hvb:=(hv.resolve_left (fun h=>absurd h.1 (by omega))).2
    obtain ⟨Ak,ck,rfl⟩:=hvb.val
    generalize hlk:(raw.drop (offN n 2)).length=lk at *
    clear hlk
    have hH0:Holds wr (H++((g6,(.cells #[.int .i64 0,.int .u64 (hdOf raw n).a,.int .i64 (hdOf raw n).s,.int .i64 0] 37))::((gL,(.cells #[.int .i64 8,.func (Fn.func 95) #[] #[.pointer (some ⟨g6,0,none⟩)],.int .i64 5,.func (Fn.func 96) #[] #[.pointer (some ⟨g6,0,none⟩)],.int .i64 3,.func (Fn.func 97) #[] #[.pointer (some ⟨g6,0,none⟩)]] 151))::((g3,(.cells #[.int .i64 0,.int .u64 0,.int .i64 0,.int .i64 0] 37))::Fr)))):=hHr
    have hBA:=hvb.at_ (hH0.alloc (.cells #[.int .i64 3,.func (Fn.func 97) #[] #[.pointer (some ⟨g6,0,none⟩)]] 151)).tail
    simp only [offN] at hBA
    have hA:=hH0.alloc (.cells #[.int .i64 3,.func (Fn.func 97) #[] #[.pointer (some ⟨g6,0,none⟩)]] 151)
    have hgA:=hgr.alloc (.cells #[.int .i64 3,.func (Fn.func 97) #[] #[.pointer (some ⟨g6,0,none⟩)]] 151)
    have x0:=hH0.right.tail.hcell 4
    have x1:=hH0.right.tail.hcell 5
    have hdl:(raw.drop (n+14)).length=14:=by simp only [List.length_drop];omega
    have HU:=Lib.hid (unfix_any _ (raw.drop (n+14)) 3 (wr.alloc (.cells #[.int .i64 3,.func (Fn.func 97) #[] #[.pointer (some ⟨g6,0,none⟩)]] 151)) _ hBA hA (by omega) (by omega) (by omega))
    have z0:=hA.hcell 0
    have z1:=hA.hcell 1
    clear hHr hv hH0 hBA hA hdl
    go_wp2_with fail
    refine HU.out.mono ?_
    rintro e w2 ⟨v2,H2,rfl,hb2,hH2,hg2⟩
    obtain ⟨A2,c2,rfl⟩:=hb2.val
    have hF:=hH2.right
    have y0:=hF.hcell 0
    have y1:=hF.hcell 1
    have hC:Holds w2 ((g6,(.cells #[.int .i64 0,.int .u64 (hdOf raw n).a,.int .i64 (hdOf raw n).s,.int .i64 0] 37))::(H2++((gL,(.cells #[.int .i64 8,.func (Fn.func 95) #[] #[.pointer (some ⟨g6,0,none⟩)],.int .i64 5,.func (Fn.func 96) #[] #[.pointer (some ⟨g6,0,none⟩)],.int .i64 3,.func (Fn.func 97) #[] #[.pointer (some ⟨g6,0,none⟩)]] 151))::((g3,(.cells #[.int .i64 0,.int .u64 0,.int .i64 0,.int .i64 0] 37))::Fr)))):=by
     have h:Holds w2 (H2++((wr.heap.size,(.cells #[.int .i64 3,.func (Fn.func 97) #[] #[.pointer (some ⟨g6,0,none⟩)]] 151))::(H++((g6,(.cells #[.int .i64 0,.int .u64 (hdOf raw n).a,.int .i64 (hdOf raw n).s,.int .i64 0] 37))::((gL,(.cells #[.int .i64 8,.func (Fn.func 95) #[] #[.pointer (some ⟨g6,0,none⟩)],.int .i64 5,.func (Fn.func 96) #[] #[.pointer (some ⟨g6,0,none⟩)],.int .i64 3,.func (Fn.func 97) #[] #[.pointer (some ⟨g6,0,none⟩)]] 151))::((g3,(.cells #[.int .i64 0,.int .u64 0,.int .i64 0,.int .i64 0] 37))::Fr)))))):=hH2
     exact h.p
    have HCL:=Lib.hid (show Calls Tryz.prog 97 #[.int .u64 (bigN ((raw.drop (n+14)).take 3)),.pointer (some ⟨g6,0,none⟩)] w2 _ from rd3_any g6 (hdOf raw n).g _ _ _ _ w2 _ hC (bigN_bd _).1 (bigN_lt (by simp only [List.length_take];omega)))
    have HB2:Hid (IsBytes (.slice A2 ((raw.drop (n+14)).drop 3).length c2) (raw.drop (n+17)) H2):=Lib.hid (by
     have e1:(raw.drop (n+14)).drop 3=raw.drop (n+17):=by rw [List.drop_drop]
     rw [e1] at hb2 ⊢
     exact hb2)
    have hgF:=hgA.trans hg2
    clear HU z0 z1 x0 x1 hb2 hH2 hF hC hgA hg2 hgr
    generalize ((raw.drop (n+14)).drop 3).length=ln at *
    go_wp2_with fail
    refine HCL.out.mono ?_
    rintro e w3 ⟨rfl,hH3,hg3⟩
    have hgG:=hgF.trans hg3
    clear HCL y0 y1 hgF hg3
    go_wp2_with fail
    go_roundw
    case rel =>
     have hE:Holds w3 (H2++((g6,(.cells #[.int .i64 0,.int .u64 (hdOf raw n).a,.int .i64 (hdOf raw n).s,.int .i64 (hdOf raw n).g] 37))::((gL,(.cells #[.int .i64 8,.func (Fn.func 95) #[] #[.pointer (some ⟨g6,0,none⟩)],.int .i64 5,.func (Fn.func 96) #[] #[.pointer (some ⟨g6,0,none⟩)],.int .i64 3,.func (Fn.func 97) #[] #[.pointer (some ⟨g6,0,none⟩)]] 151))::((g3,(.cells #[.int .i64 0,.int .u64 0,.int .i64 0,.int .i64 0] 37))::Fr)))):=hH3.p
     exact ⟨3,H2,by omega,by go_num,.inr ⟨by omega,HB2.out⟩,hE,hgG⟩
    case measure=>simp [intOf]
   ·have hH0:Holds wr ((g6,(.cells #[.int .i64 0,.int .u64 (hdOf raw n).a,.int .i64 (hdOf raw n).s,.int .i64 (hdOf raw n).g] 37))::((gL,(.cells #[.int .i64 8,.func (Fn.func 95) #[] #[.pointer (some ⟨g6,0,none⟩)],.int .i64 5,.func (Fn.func 96) #[] #[.pointer (some ⟨g6,0,none⟩)],.int .i64 3,.func (Fn.func 97) #[] #[.pointer (some ⟨g6,0,none⟩)]] 151))::((g3,(.cells #[.int .i64 0,.int .u64 0,.int .i64 0,.int .i64 0] 37))::Fr))):=by
     have h:Holds wr (H++((g6,(.cells #[.int .i64 0,.int .u64 (hdOf raw n).a,.int .i64 (hdOf raw n).s,.int .i64 (hdOf raw n).g] 37))::((gL,(.cells #[.int .i64 8,.func (Fn.func 95) #[] #[.pointer (some ⟨g6,0,none⟩)],.int .i64 5,.func (Fn.func 96) #[] #[.pointer (some ⟨g6,0,none⟩)],.int .i64 3,.func (Fn.func 97) #[] #[.pointer (some ⟨g6,0,none⟩)]] 151))::((g3,(.cells #[.int .i64 0,.int .u64 0,.int .i64 0,.int .i64 0] 37))::Fr)))):=hHr
     exact h.right
    have hkb:n<raw.length:=by omega
    have hBV:=HB.out wr hH0.tail.tail.tail
    have hck:wr.cell? ⟨b,o+n,none⟩=some (.int .u8 (raw[n].toNat:Int)):=by
     obtain ⟨_,A',c',hv',_,_,ha⟩:=hBV
     injection hv' with e1 _ _
     obtain ⟨b',o',e2,hc⟩:=ha (by omega)
     rw [e2] at e1
     injection e1 with e1
     injection e1 with e1 e3
     subst e1 e3
     exact hc n _ (by rw [List.getElem?_map,List.getElem?_eq_getElem hkb];rfl)
    have hk0:(hdOf raw n).k=(raw[n].toNat:Int):=by unfold hdOf;rw [List.getD_eq_getElem?_getD,List.getElem?_eq_getElem hkb];rfl
    have hIN:HdIn (hdOf raw n):=⟨(bigN_bd _).1,by
     have h:=(bigN_bd ((raw.drop (n+1)).take 8)).2
     rw [show ((raw.drop (n+1)).take 8).length=8 by simp only [List.length_take,List.length_drop];omega] at h
     exact h⟩
    have hdef:readF raw=if (hdOf raw n).may=true∧layL (raw.take n) (hdOf raw n)=raw then some (raw.take n,hdOf raw n) else none:=by
     unfold readF
     rw [show raw.length - 28=n by omega,e28,show sizedB (n:Int)=true by unfold sizedB;simp;omega]
     simp
    have hxl:(raw[n].toNat:Int)<256:=by have:=raw[n].toNat_lt;omega
    have hx0:(0:Int)≤(raw[n].toNat:Int):=by omega
    have htl:(raw.take n).length=n:=by rw [List.length_take];omega
    generalize hdOf raw n=hd at *
    obtain ⟨hk,ha,hs_,hg⟩:=hd
    dsimp only at hk0
    rw [← hk0] at hck hxl hx0
    clear hk0
    have HDEF:=Lib.hid hdef
    have HIN:=Lib.hid hIN
    have hset1:=hH0.set' 0 (.int .i64 hk)
    have hH1:Holds (wr.setCell ⟨g6,0,none⟩ (.int .i64 hk)) ((g6,(.cells #[.int .i64 hk,.int .u64 ha,.int .i64 hs_,.int .i64 hg] 37))::((gL,(.cells #[.int .i64 8,.func (Fn.func 95) #[] #[.pointer (some ⟨g6,0,none⟩)],.int .i64 5,.func (Fn.func 96) #[] #[.pointer (some ⟨g6,0,none⟩)],.int .i64 3,.func (Fn.func 97) #[] #[.pointer (some ⟨g6,0,none⟩)]] 151))::((g3,(.cells #[.int .i64 0,.int .u64 0,.int .i64 0,.int .i64 0] 37))::Fr))):=hset1
    have hg1:=hgr.setCell ⟨g6,0,none⟩ (.int .i64 hk)
    obtain ⟨y0,y1,y2,y3,f0,f1,f2,f3⟩:=hset hH0
    have fl:=hH0.hlt
    clear hHr hv hBV hset1 hH0 hdef hIN
    go_upto_region 14 with fail
    change Code.wp _ _ _ _ (wr.setCell ⟨g6,0,none⟩ (.int .i64 hk))
    generalize wr.setCell ⟨g6,0,none⟩ (.int .i64 hk)=wS at *
    clear y0 y1 y2 y3 f0 f1 f2 f3 fl hck hkb hxl hx0
    have HTB:Hid (FrBytes Fr (.slice (some ⟨b,o,none⟩) n c) (raw.take n)):=Lib.hid (fun wx hx=>by
     have h:=HB.out wx hx
     have h2:=BytesAt.pre (m:=n) h (by omega)
     exact h2)
    have HSW:Hid (∀ (wx:World) (X:HL),Holds wx (X++((g6,(.cells #[.int .i64 hk,.int .u64 ha,.int .i64 hs_,.int .i64 hg] 37))::((gL,(.cells #[.int .i64 8,.func (Fn.func 95) #[] #[.pointer (some ⟨g6,0,none⟩)],.int .i64 5,.func (Fn.func 96) #[] #[.pointer (some ⟨g6,0,none⟩)],.int .i64 3,.func (Fn.func 97) #[] #[.pointer (some ⟨g6,0,none⟩)]] 151))::((g3,(.cells #[.int .i64 0,.int .u64 0,.int .i64 0,.int .i64 0] 37))::Fr))))→wx.cell? ⟨g6,0,none⟩=some (.int .i64 hk)∧wx.cell? ⟨g6,1,none⟩=some (.int .u64 ha)∧wx.cell? ⟨g6,2,none⟩=some (.int .i64 hs_)∧wx.cell? ⟨g6,3,none⟩=some (.int .i64 hg)):=Lib.hid (fun wx X hX=>⟨hX.right.hcell 0,hX.right.hcell 1,hX.right.hcell 2,hX.right.hcell 3⟩)
    have HTL:=Lib.hid htl
    have hnc:n≤c:=by omega
    cases hmay:Hd.may ⟨hk,ha,hs_,hg⟩ with
    |true =>
     have HLY:=Lib.hid (fun (wx:World) (F:HL) (hf:FrBytes F (.slice (some ⟨b,o,none⟩) n c) (raw.take n)) (hx:Holds wx F)=>lay_yes (.slice (some ⟨b,o,none⟩) n c) (raw.take n) ⟨hk,ha,hs_,hg⟩ wx F hf hx (by rw [htl];unfold sizedB;simp;omega) hmay HIN.out)
     simp only [Hd.agg,Hd.cells] at HLY
     clear htl
     refine Z_begin (fun wx=>wx.cell? ⟨g6,0,none⟩=some (.int .i64 hk)∧wx.cell? ⟨g6,1,none⟩=some (.int .u64 ha)∧wx.cell? ⟨g6,2,none⟩=some (.int .i64 hs_)∧wx.cell? ⟨g6,3,none⟩=some (.int .i64 hg)) 10 (by kernel_rfl) (fun w1 hd=>HSW.out _ [] (hH1.dr hd)) (fun w1 hd hs=>?_)
     have hH3:=hH1.dr hd;have hG3:=hg1.trans (Grew.dr hd);clear hd hH1 hg1
     refine Zt 0 59 ?_ rfl hs ?_ ?_
     rotate_left
     ·rintro wx ⟨s0,s1,s2,s3⟩;go_simp;try with_reducible rfl
     simp only [pt,sA,sS,sZ]
     refine Zt 1 60 ?_ rfl hs ?_ ?_
     rotate_left
     ·rintro wx ⟨s0,s1,s2,s3⟩;go_simp;try with_reducible rfl
     simp only [pt,sA,sS,sZ]
     refine Zt 2 61 ?_ rfl hs ?_ ?_
     rotate_left
     ·rintro wx ⟨s0,s1,s2,s3⟩;go_simp;try with_reducible rfl
     simp only [pt,sA,sS,sZ]
     refine Zt 3 62 ?_ rfl hs ?_ ?_
     rotate_left
     ·rintro wx ⟨s0,s1,s2,s3⟩;go_simp;try with_reducible rfl
     simp only [pt,sA,sS,sZ]
     refine Z_mid 4 rfl (by kernel_rfl) (fun K hK=>?_)
     have ⟨s0,s1,s2,s3⟩:=hs
     go_simp;refine (HLY.out w1 _ (fun wx hx=>HTB.out wx hx.tail.tail.tail) hH3).mono ?_;rintro e w4 ⟨v4,H4,rfl,hb4,hH4,hg4⟩;obtain ⟨A4,c4,rfl⟩:=hb4.val;have HB4:=Lib.hid hb4;have hG4:=hG3.trans hg4;clear hH3 hG3 hg4 hb4
     clear s0 s1 s2 s3
     refine hK _ _ (HSW.out _ H4 hH4) (fun hs2=>?_);clear hK K hs;have hs:=hs2;clear hs2
     refine Zt 5 58 ?_ rfl hs ?_ ?_
     rotate_left
     ·rintro wx ⟨s0,s1,s2,s3⟩;go_simp;try with_reducible rfl
     simp only [pt,sA,sS,sZ]
     refine Zt 6 64 ?_ rfl hs ?_ ?_
     rotate_left
     ·rintro wx ⟨s0,s1,s2,s3⟩;go_simp;try with_reducible rfl
     simp only [pt,sA,sS,sZ]
     refine Zt 7 65 ?_ rfl hs ?_ ?_
     rotate_left
     ·rintro wx ⟨s0,s1,s2,s3⟩;go_simp;try with_reducible rfl
     simp only [pt,sA,sS,sZ]
     refine Zt 8 13 ?_ rfl hs ?_ ?_
     rotate_left
     ·rintro wx ⟨s0,s1,s2,s3⟩;go_simp;try with_reducible rfl
     simp only [pt,sA,sS,sZ]
     refine Zt 9 14 ?_ rfl hs ?_ ?_
     rotate_left
     ·rintro wx ⟨s0,s1,s2,s3⟩;go_simp;try with_reducible rfl
     simp only [pt,sA,sS,sZ]
     refine Z_done (by kernel_rfl) ?_ _
     generalize hlay:layL (raw.take n) ⟨hk,ha,hs_,hg⟩=lay at *
     have HLAY:=Lib.hid hlay
     clear hlay
     have hRB:=HB.out w4 hH4.right.tail.tail.tail
     have HEQ:=Lib.hid (equal_any _ _ lay raw w4 (HB4.out.at_ hH4) hRB)
     rw [HRL.out] at HEQ
     generalize lay.length=ll at *
     have hne:=nil_ne
     by_cases hE:lay=raw
     ·have HD2:=Lib.hid (show readF raw=some (raw.take n,⟨hk,ha,hs_,hg⟩) by rw [HDEF.out,if_pos ⟨hmay,hE⟩])
      rw [decide_eq_true hE] at HEQ
      have HRF2:=Lib.hid (HRF.out.trans HD2.out)
      have hH5:Holds w4 ((g6,(.cells #[.int .i64 hk,.int .u64 ha,.int .i64 hs_,.int .i64 hg] 37))::((gL,(.cells #[.int .i64 8,.func (Fn.func 95) #[] #[.pointer (some ⟨g6,0,none⟩)],.int .i64 5,.func (Fn.func 96) #[] #[.pointer (some ⟨g6,0,none⟩)],.int .i64 3,.func (Fn.func 97) #[] #[.pointer (some ⟨g6,0,none⟩)]] 151))::((g3,(.cells #[.int .i64 0,.int .u64 0,.int .i64 0,.int .i64 0] 37))::Fr))):=hH4.right
      have HCLN:=Lib.hid (fun (wx:World) (F:HL) (hb:BytesAt wx (.slice (some ⟨b,o,none⟩) n c) (raw.take n)) (hx:Holds wx F)=>clone_any (.slice (some ⟨b,o,none⟩) n c) (raw.take n) wx F hb hx (by rw [HTL.out];omega))
      have HSX:Hid (∀ (wx:World) (X:HL),Holds wx (X++((g6,(.cells #[.int .i64 hk,.int .u64 ha,.int .i64 hs_,.int .i64 hg] 37))::((gL,(.cells #[.int .i64 8,.func (Fn.func 95) #[] #[.pointer (some ⟨g6,0,none⟩)],.int .i64 5,.func (Fn.func 96) #[] #[.pointer (some ⟨g6,0,none⟩)],.int .i64 3,.func (Fn.func 97) #[] #[.pointer (some ⟨g6,0,none⟩)]] 151))::((g3,(.cells #[.int .i64 0,.int .u64 0,.int .i64 0,.int .i64 0] 37))::Fr))))→wx.cell? ⟨g6,0,none⟩=some (.int .i64 hk)∧wx.cell? ⟨g6,1,none⟩=some (.int .u64 ha)∧wx.cell? ⟨g6,2,none⟩=some (.int .i64 hs_)∧wx.cell? ⟨g6,3,none⟩=some (.int .i64 hg)∧wx.cell? ⟨g3,0,none⟩=some (.int .i64 0)∧wx.cell? ⟨g3,1,none⟩=some (.int .u64 0)∧wx.cell? ⟨g3,2,none⟩=some (.int .i64 0)∧wx.cell? ⟨g3,3,none⟩=some (.int .i64 0)∧wx.frozen? ⟨g3,0,none⟩=false∧wx.frozen? ⟨g3,1,none⟩=false∧wx.frozen? ⟨g3,2,none⟩=false∧wx.frozen? ⟨g3,3,none⟩=false):=Lib.hid (fun wx X hX=>⟨hX.right.hcell 0,hX.right.hcell 1,hX.right.hcell 2,hX.right.hcell 3,hX.right.tail.tail.hcell 0,hX.right.tail.tail.hcell 1,hX.right.tail.tail.hcell 2,hX.right.tail.tail.hcell 3,hX.right.tail.tail.hfrozen 0,hX.right.tail.tail.hfrozen 1,hX.right.tail.tail.hfrozen 2,hX.right.tail.tail.hfrozen 3⟩)
      clear hs hRB hH4 hE
      go_wp2_with fail
      refine HEQ.out.mono ?_
      rintro e w5 ⟨rfl,q5,rfl⟩
      have hH6:=hH5.drewN q5
      have hG6:=hG4.drewN q5
      generalize w4.drewN q5=w5 at *
      clear HEQ hH5 hG4 hne
      go_upto_region 17 with fail
      refine Y_begin (fun wx=>wx.cell? ⟨g6,0,none⟩=some (.int .i64 hk)∧wx.cell? ⟨g6,1,none⟩=some (.int .u64 ha)∧wx.cell? ⟨g6,2,none⟩=some (.int .i64 hs_)∧wx.cell? ⟨g6,3,none⟩=some (.int .i64 hg)∧wx.cell? ⟨g3,0,none⟩=some (.int .i64 0)∧wx.cell? ⟨g3,1,none⟩=some (.int .u64 0)∧wx.cell? ⟨g3,2,none⟩=some (.int .i64 0)∧wx.cell? ⟨g3,3,none⟩=some (.int .i64 0)∧wx.frozen? ⟨g3,0,none⟩=false∧wx.frozen? ⟨g3,1,none⟩=false∧wx.frozen? ⟨g3,2,none⟩=false∧wx.frozen? ⟨g3,3,none⟩=false) 6 (by kernel_rfl) (fun w1 hd=>HSX.out _ [] (hH6.dr hd)) (fun w1 hd hs=>?_)
      have hH7:=hH6.dr hd;have hG7:=hG6.trans (Grew.dr hd);clear hd hH6 hG6
      refine Yt 0 77 ?_ rfl hs ?_ ?_
      rotate_left
      ·intro wx;go_simp;try with_reducible rfl
      simp only [pt,sA,sS,sZ]
      refine Yt 1 78 ?_ rfl hs ?_ ?_
      rotate_left
      ·intro wx;go_simp;try with_reducible rfl
      simp only [pt,sA,sS,sZ]
      refine Yt 2 79 ?_ rfl hs ?_ ?_
      rotate_left
      ·intro wx;go_simp;try with_reducible rfl
      simp only [pt,sA,sS,sZ]
      refine Yd 4 81 ?_ rfl hs ?_ ?_
      rotate_left
      ·rintro wx ⟨s0,s1,s2,s3,t0,t1,t2,t3,f0,f1,f2,f3⟩;go_simp;try with_reducible rfl
      simp only [pt,sA,sS,sZ]
      refine Y_mid 3 rfl (by kernel_rfl) (fun K hK=>?_)
      have ⟨s0,s1,s2,s3,t0,t1,t2,t3,f0,f1,f2,f3⟩:=hs
      go_simp;refine (HCLN.out w1 _ (HTB.out w1 hH7.tail.tail.tail) hH7).mono ?_;rintro e w8 ⟨v8,H8,rfl,hb8,hH8,hg8⟩;obtain ⟨A8,c8,rfl⟩:=hb8.val;have HB8:=Lib.hid hb8;have hG8:=hG7.trans hg8;clear hb8 hg8 hH7 hG7
      clear s0 s1 s2 s3 t0 t1 t2 t3 f0 f1 f2 f3
      refine hK _ _ (HSX.out _ H8 hH8) (fun hs2=>?_);clear hK K hs;have hs:=hs2;clear hs2
      refine Yt 5 2 ?_ rfl hs ?_ ?_
      rotate_left
      ·intro wx;go_simp;try with_reducible rfl
      simp only [pt,sA,sS,sZ]
      refine Y_late 6 rfl (by kernel_rfl) (by kernel_rfl) (fun K hK=>?_)
      have ⟨s0,s1,s2,s3,t0,t1,t2,t3,f0,f1,f2,f3⟩:=hs
      go_simp
      clear s0 s1 s2 s3 t0 t1 t2 t3 f0 f1 f2 f3 hs
      refine hK _ _ ?_;clear hK K
      refine Y_late 7 rfl (by kernel_rfl) (by kernel_rfl) (fun K hK=>?_)
      go_simp
      refine hK _ _ ?_;clear hK K
      refine Y_done (by kernel_rfl) ?_ _
      have hz:Holds w8 ((g3,(.cells #[.int .i64 0,.int .u64 0,.int .i64 0,.int .i64 0] 37))::(H8++Fr)):=hH8.p
      have HFIN:=Lib.hid ((((hz.set' 0 (.int .i64 hk)).set' 1 (.int .u64 ha)).set' 2 (.int .i64 hs_)).set' 3 (.int .i64 hg))
      have HGF:=Lib.hid ((((hG8.setCell ⟨g3,0,none⟩ (.int .i64 hk)).setCell ⟨g3,1,none⟩ (.int .u64 ha)).setCell ⟨g3,2,none⟩ (.int .i64 hs_)).setCell ⟨g3,3,none⟩ (.int .i64 hg))
      change Exit.then _ _ _ _ ((((w8.setCell ⟨g3,0,none⟩ (.int .i64 hk)).setCell ⟨g3,1,none⟩ (.int .u64 ha)).setCell ⟨g3,2,none⟩ (.int .i64 hs_)).setCell ⟨g3,3,none⟩ (.int .i64 hg))
      generalize (((w8.setCell ⟨g3,0,none⟩ (.int .i64 hk)).setCell ⟨g3,1,none⟩ (.int .u64 ha)).setCell ⟨g3,2,none⟩ (.int .i64 hs_)).setCell ⟨g3,3,none⟩ (.int .i64 hg)=wF at *
      have hF:=HFIN.out
      obtain ⟨x0,x1,x2,x3,_,_,_,_⟩:=hset hF
      have hFl:=hF.hlt
      have hFT:=Lib.hid hF.tail
      clear hz hH8 hG8 hF HFIN
      go_wp2_with fail
      refine ⟨rfl,_,(by rw [results_tct rfl];go_simp;rfl),?_⟩
      rw [HRF2.out]
      exact ⟨_,H8,rfl,(by have h:=HB8.out;rw [HTL.out] at h;exact h),hFT.out,HGF.out⟩
     ·have HD2:=Lib.hid (show readF raw=none by rw [HDEF.out,if_neg (fun h=>hE h.2)])
      rw [decide_eq_false hE] at HEQ
      have HRF2:=Lib.hid (HRF.out.trans HD2.out)
      have hH5:Holds w4 ((g6,(.cells #[.int .i64 hk,.int .u64 ha,.int .i64 hs_,.int .i64 hg] 37))::((gL,(.cells #[.int .i64 8,.func (Fn.func 95) #[] #[.pointer (some ⟨g6,0,none⟩)],.int .i64 5,.func (Fn.func 96) #[] #[.pointer (some ⟨g6,0,none⟩)],.int .i64 3,.func (Fn.func 97) #[] #[.pointer (some ⟨g6,0,none⟩)]] 151))::((g3,(.cells #[.int .i64 0,.int .u64 0,.int .i64 0,.int .i64 0] 37))::Fr))):=hH4.right
      clear hs hRB hH4 hE
      go_wp2_with fail
      refine HEQ.out.mono ?_
      rintro e w5 ⟨rfl,q5,rfl⟩
      have hH6:=hH5.drewN q5
      have hG6:=hG4.drewN q5
      generalize w4.drewN q5=w5 at *
      clear HEQ hH5 hG4 hne
      have hq:=hH6.tail.tail
      have hgq:=hG6
      have HST:=Lib.hid (hdstate_any (.slice (some ⟨b,o,none⟩) (n+28) c) raw w5 (by have h:=HB.out w5 hq.tail;rw [HRL.out] at h;exact h))
      have HFIN:=Lib.hid (((((hq.set' 0 (.int .i64 0)).set' 1 (.int .u64 0)).set' 2 (.int .i64 0)).set' 3 (.int .i64 0)))
      have HGF:=Lib.hid ((((hgq.setCell ⟨g3,0,none⟩ (.int .i64 0)).setCell ⟨g3,1,none⟩ (.int .u64 0)).setCell ⟨g3,2,none⟩ (.int .i64 0)).setCell ⟨g3,3,none⟩ (.int .i64 0))
      obtain ⟨x0,x1,x2,x3,f0,f1,f2,f3⟩:=hset hq
      have fl:=hq.hlt
      clear hq hgq hH6 hG6
      go_wp2_with fail
      refine HST.out.mono ?_
      rintro e w9 ⟨st,rfl,hst,rfl⟩
      have HSTN:=Lib.hid hst
      clear hst
      go_wp2_with fail
      refine ⟨rfl,_,(by rw [results_tct rfl];go_simp;rfl),?_⟩
      rw [HRF2.out]
      exact ⟨st,HSTN.out,rfl,HFIN.out.tail,HGF.out⟩
    |false =>
     have HD2:=Lib.hid (show readF raw=none by rw [HDEF.out,if_neg (fun h=>by rw [hmay] at h;exact absurd h.1 (by decide))])
     have HRF2:=Lib.hid (HRF.out.trans HD2.out)
     have HLY:=Lib.hid (fun (wx:World) (F:HL) (hf:BytesAt wx (.slice (some ⟨b,o,none⟩) n c) (raw.take n)) (hx:Holds wx F)=>lay_no (.slice (some ⟨b,o,none⟩) n c) (raw.take n) ⟨hk,ha,hs_,hg⟩ wx F hf hx (by rw [hmay,Bool.and_false]))
     simp only [Hd.agg,Hd.cells] at HLY
     clear htl
     refine Z_begin (fun wx=>wx.cell? ⟨g6,0,none⟩=some (.int .i64 hk)∧wx.cell? ⟨g6,1,none⟩=some (.int .u64 ha)∧wx.cell? ⟨g6,2,none⟩=some (.int .i64 hs_)∧wx.cell? ⟨g6,3,none⟩=some (.int .i64 hg)) 10 (by kernel_rfl) (fun w1 hd=>HSW.out _ [] (hH1.dr hd)) (fun w1 hd hs=>?_)
     have hH3:=hH1.dr hd;have hG3:=hg1.trans (Grew.dr hd);clear hd hH1 hg1
     refine Zt 0 59 ?_ rfl hs ?_ ?_
     rotate_left
     ·rintro wx ⟨s0,s1,s2,s3⟩;go_simp;try with_reducible rfl
     simp only [pt,sA,sS,sZ]
     refine Zt 1 60 ?_ rfl hs ?_ ?_
     rotate_left
     ·rintro wx ⟨s0,s1,s2,s3⟩;go_simp;try with_reducible rfl
     simp only [pt,sA,sS,sZ]
     refine Zt 2 61 ?_ rfl hs ?_ ?_
     rotate_left
     ·rintro wx ⟨s0,s1,s2,s3⟩;go_simp;try with_reducible rfl
     simp only [pt,sA,sS,sZ]
     refine Zt 3 62 ?_ rfl hs ?_ ?_
     rotate_left
     ·rintro wx ⟨s0,s1,s2,s3⟩;go_simp;try with_reducible rfl
     simp only [pt,sA,sS,sZ]
     refine Z_mid 4 rfl (by kernel_rfl) (fun K hK=>?_)
     have ⟨s0,s1,s2,s3⟩:=hs
     go_simp;refine (HLY.out w1 _ (HTB.out w1 hH3.tail.tail.tail) hH3).mono ?_;rintro e w4 ⟨ve,He,rfl,he4,hH4,hg4⟩;have hG4:=hG3.trans hg4;clear hH3 hG3 hg4
     clear s0 s1 s2 s3
     refine hK _ _ (HSW.out _ He hH4) (fun hs2=>?_);clear hK K hs;have hs:=hs2;clear hs2
     refine Zt 5 58 ?_ rfl hs ?_ ?_
     rotate_left
     ·rintro wx ⟨s0,s1,s2,s3⟩;go_simp;try with_reducible rfl
     simp only [pt,sA,sS,sZ]
     refine Zt 6 64 ?_ rfl hs ?_ ?_
     rotate_left
     ·rintro wx ⟨s0,s1,s2,s3⟩;go_simp;try with_reducible rfl
     simp only [pt,sA,sS,sZ]
     refine Zt 7 65 ?_ rfl hs ?_ ?_
     rotate_left
     ·rintro wx ⟨s0,s1,s2,s3⟩;go_simp;try with_reducible rfl
     simp only [pt,sA,sS,sZ]
     refine Zt 8 13 ?_ rfl hs ?_ ?_
     rotate_left
     ·rintro wx ⟨s0,s1,s2,s3⟩;go_simp;try with_reducible rfl
     simp only [pt,sA,sS,sZ]
     refine Zt 9 14 ?_ rfl hs ?_ ?_
     rotate_left
     ·rintro wx ⟨s0,s1,s2,s3⟩;go_simp;try with_reducible rfl
     simp only [pt,sA,sS,sZ]
     refine Z_done (by kernel_rfl) ?_ _
     obtain ⟨be,se,rfl,rfl⟩:=isErr2 he4
     have hne:=err_ne (.pointer (some ⟨be,0,none⟩))
     have hH6:=hH4.right
     clear hs hH4 he4
     have hq:=hH6.tail.tail
     have hgq:=hG4
     have HST:=Lib.hid (hdstate_any (.slice (some ⟨b,o,none⟩) (n+28) c) raw w4 (by have h:=HB.out w4 hq.tail;rw [HRL.out] at h;exact h))
     have HFIN:=Lib.hid (((((hq.set' 0 (.int .i64 0)).set' 1 (.int .u64 0)).set' 2 (.int .i64 0)).set' 3 (.int .i64 0)))
     have HGF:=Lib.hid ((((hgq.setCell ⟨g3,0,none⟩ (.int .i64 0)).setCell ⟨g3,1,none⟩ (.int .u64 0)).setCell ⟨g3,2,none⟩ (.int .i64 0)).setCell ⟨g3,3,none⟩ (.int .i64 0))
     obtain ⟨x0,x1,x2,x3,f0,f1,f2,f3⟩:=hset hq
     have fl:=hq.hlt
     clear hq hgq hH6 hG4
     go_wp2_with fail
     refine HST.out.mono ?_
     rintro e w9 ⟨st,rfl,hst,rfl⟩
     have HSTN:=Lib.hid hst
     clear hst
     go_wp2_with fail
     refine ⟨rfl,_,(by rw [results_tct rfl];go_simp;rfl),?_⟩
     rw [HRF2.out]
     exact ⟨st,HSTN.out,rfl,HFIN.out.tail,HGF.out⟩
end Go.Proofs.YtoelopghilbfeaaGreat
