/-
  Texts put together: YtoelopghilbfeaaGreatMo, YtoelopghilbfeaaGreatMo2, YtoelopghilbfeaaGreatMo3, YtoelopghilbfeaaGreatMo4.
-/
import Derived.Test.YtoelopghilbfeaaGreatSpY
import Derived.Test.YtoelopghilbfeaaGreatSpX
namespace Go.Proofs.YtoelopghilbfeaaGreat
open Go.RowKit
set_option linter.unusedSimpArgs false
set_option linter.unusedVariables false
structure Pg where
 h:Hd
 n:Int
 need:Bool
def Pg.cells (p:Pg):List Value:=[.int .i64 p.h.k,.int .u64 p.h.a,.int .i64 p.h.s,.int .i64 p.h.g,.int .i64 p.n,.bool p.need]
def Pg.zero:Pg:=⟨Hd.zero,0,false⟩
def moL (f:Nat→Pg) (q:Int):List Value:=((List.range 256).map fun j=>(f j).cells).flatten++[.int .i64 q]
def moO (f:Nat→Pg) (q:Int):Obj:=.cells (moL f q).toArray 64
theorem mo_len (f:Nat→Pg):(((List.range 256).map fun j=>(f j).cells).flatten).length=1536:=by
 rw [flat_len (size:=6) _ (fun x hx=>by obtain ⟨j,_,rfl⟩:=List.mem_map.1 hx;rfl)]
 simp
theorem mo_get (f:Nat→Pg) (q:Int) {j i:Nat} (hj:j<256) (hi:i<6):(moL f q)[j * 6+i]?=(f j).cells[i]?:=by
 unfold moL
 rw [List.getElem?_append_left (by rw [mo_len];omega)]
 exact flat_get (size:=6) _ (fun x hx=>by obtain ⟨j,_,rfl⟩:=List.mem_map.1 hx;rfl) j i _ (by rw [List.getElem?_map,List.getElem?_range hj];rfl) hi
theorem mo_seq (f:Nat→Pg) (q:Int):(moL f q)[1536]?=some (.int .i64 q):=by
 unfold moL
 rw [List.getElem?_append_right (by rw [mo_len];exact Nat.le_refl _),mo_len]
 rfl
theorem mo_cells {w:World} {mb:Nat} {f:Nat→Pg} {q:Int} {H:HL} (h:Holds w ((mb,moO f q)::H)) {j:Nat} (hj:j<256) :
  w.cell? ⟨mb,j * 6,none⟩=some (.int .i64 (f j).h.k)∧w.cell? ⟨mb,j * 6+1,none⟩=some (.int .u64 (f j).h.a)∧w.cell? ⟨mb,j * 6+2,none⟩=some (.int .i64 (f j).h.s)∧w.cell? ⟨mb,j * 6+3,none⟩=some (.int .i64 (f j).h.g) ∧
   w.cell? ⟨mb,j * 6+4,none⟩=some (.int .i64 (f j).n)∧w.cell? ⟨mb,j * 6+5,none⟩=some (.bool (f j).need):=by
 have hc:∀ (i:Nat) (u:Value),i<6→(f j).cells[i]?=some u→w.cell? ⟨mb,j * 6+i,none⟩=some u:=by
  intro i u hi hu
  have:=h.hcell (j * 6+i)
  rw [List.getElem?_toArray,mo_get f q hj hi,hu] at this
  exact this
 exact ⟨hc 0 _ (by omega) rfl,hc 1 _ (by omega) rfl,hc 2 _ (by omega) rfl,hc 3 _ (by omega) rfl,hc 4 _ (by omega) rfl,hc 5 _ (by omega) rfl⟩
theorem mo_seqc {w:World} {mb:Nat} {f:Nat→Pg} {q:Int} {H:HL} (h:Holds w ((mb,moO f q)::H)):w.cell? ⟨mb,1536,none⟩=some (.int .i64 q):=by
 have:=h.hcell 1536
 rw [List.getElem?_toArray,mo_seq] at this
 exact this
theorem mo_set (f:Nat→Pg) (q:Int) {j i:Nat} (hj:j<256) (hi:i<6) (u:Value) (p:Pg) (hp:(f j).cells.set i u=p.cells):(moL f q).set (j * 6+i) u=moL (updF f j p) q:=by
 unfold moL
 rw [List.set_append_left _ _ (by rw [mo_len];omega)]
 rw [flat_set (size:=6) _ (fun x hx=>by obtain ⟨j,_,rfl⟩:=List.mem_map.1 hx;rfl) j i _ u (by rw [List.getElem?_map,List.getElem?_range hj];rfl) hi,hp]
 congr 2
 refine List.ext_getElem? fun t=>?_
 rw [List.getElem?_set,List.getElem?_map,List.getElem?_map]
 unfold updF
 by_cases ht:t<256
 ·rw [List.getElem?_range ht]
  by_cases e:j=t
  ·subst e;rw [if_pos rfl,if_pos (by simpa using ht)];simp
  ·rw [if_neg e];simp [Ne.symm e]
 ·have hn:(List.range 256)[t]?=none:=List.getElem?_eq_none_iff.2 (by simpa using ht)
  rw [hn]
  by_cases e:j=t
  ·subst e;rw [if_pos rfl,if_neg (by simpa using ht)];rfl
  ·rw [if_neg e];rfl
theorem mo_need {w:World} {mb:Nat} {f:Nat→Pg} {q:Int} {H:HL} (h:Holds w ((mb,moO f q)::H)) {j:Nat} (hj:j<256) (b:Bool) :
  Holds (w.setCell ⟨mb,j * 6+5,none⟩ (.bool b)) ((mb,moO (updF f j { f j with need:=b }) q)::H):=by
 have h2:=Holds.set h (j * 6+5) (.bool b)
 rw [List.setIfInBounds_toArray,mo_set f q hj (by omega) (.bool b) { f j with need:=b } rfl] at h2
 exact h2
def NdTo16 (f:Nat→Pg) (w:World) (F:HL) (ov iv:Value) (wr:World):Prop :=
 ∃ (k:Nat) (Ho:HL),k≤256∧iv=.int .i64 k∧IsNums ov (numsIf (fun j=>(f j).need) k) Ho∧Holds wr (Ho++F)∧Grew w wr
theorem numsIf_succ (g:Nat→Bool) (k:Nat):numsIf g (k+1)=if g k then numsIf g k++[(k:Int)] else numsIf g k:=by
 unfold numsIf
 rw [filter_snoc]
 split
 ·rw [List.map_append];rfl
 ·rfl
set_option maxRecDepth 20000 in
set_option maxHeartbeats 2000000 in
theorem moneeded_any {mb:Nat} {f:Nat→Pg} {q:Int} {w:World} {Fr:HL} (hH:Holds w ((mb,moO f q)::Fr)):Calls Tryz.prog 63 #[.pointer (some ⟨mb,0,none⟩)] w (RetNew (fun v H=>IsNums v (numsIf (fun j=>(f j).need) 256) H) w ((mb,moO f q)::Fr)):=by
 have hg0:=Grew.refl w
 go_enter Tryz.func63,Tryz.ntmps63
 go_wp2_with fail
 go_loopw [3,4] (fun ov iv wr=>NdTo16 f w ((mb,moO f q)::Fr) ov iv wr) (fun _ i _=>256 - (intOf i).toNat)
 case atStart=>exact ⟨0,[],by omega,rfl,IsRow.nil _ _,hH,hg0⟩
 case round =>
  clear hH hg0
  obtain ⟨k,Ho,hk,rfl,ho,hHr,hgr⟩:=hrel
  by_cases hlt:k<256
  ·have hkn:(k:Int)<256:=by omega
   have hkw:IntKind.i64.wrap ((k:Int)+1)=k+1:=wrap_i64_id (by omega) (by omega)
   have hc:=(mo_cells (hHr.p:Holds wr ((mb,moO f q)::(Ho++Fr))) hlt).2.2.2.2.2
   have HOU:=Lib.hid ho
   have HSU:=Lib.hid (numsIf_succ (fun j=>(f j).need) k)
   have hln:(numsIf (fun j=>(f j).need) k).length≤256:=by rw [numsIf_len];have:=cntTo_le (fun j=>(f j).need) k k fun j hj _=>hj;omega
   have HLN:=Lib.hid hln
   clear ho hln
   cases hb:(f k).need with
   |true =>
    have HB:=Lib.hid hb
    rw [hb] at hc
    generalize numsIf (fun j=>(f j).need) k=ot at *
    clear hb
    obtain ⟨Ao,co,rfl⟩:=HOU.out.val
    have HROW:=Lib.hid (show IsRow 3 1 (.slice Ao ot.length co) ot.length (ot.map (Value.int .i64)) Ho from HOU.out)
    go_wp2_with (at_builtin;refine wpList_append_T tInts (by rfl) (.tmp 16) (.tmp 18) (by rfl) (by rfl) (by rfl) HROW.out (hHr.alloc' _) ReadsAt.one (by simp [Value.oneCell']) (by have:=HLN.out;simp only [maxLen];omega) (by have:=HLN.out;omega) ?_;intro A' c' w' H' hrow hH9 hg9)
    go_roundw
    case rel =>
     refine ⟨k+1,H',by omega,by go_num,?_,hH9,(hgr.alloc _).trans hg9⟩
     rw [HSU.out,if_pos HB.out]
     unfold IsNums
     rw [List.length_append,List.map_append]
     exact hrow
    case measure=>simp [intOf];omega
   |false =>
    have HB:=Lib.hid hb
    rw [hb] at hc
    clear hb
    go_wp2_with fail
    go_roundw
    case rel =>
     refine ⟨k+1,Ho,by omega,by go_num,?_,hHr,hgr⟩
     rw [HSU.out,if_neg (by rw [HB.out];simp)]
     exact HOU.out
    case measure=>simp [intOf];omega
  ·obtain rfl:k=256:=by omega
   have HOU:=Lib.hid ho
   clear ho
   obtain ⟨Ao,co,rfl⟩:=HOU.out.val
   go_wp2_with fail
   go_ret
   exact ⟨_,Ho,rfl,HOU.out,hHr,hgr⟩
end Go.Proofs.YtoelopghilbfeaaGreat
namespace Go.Proofs.YtoelopghilbfeaaGreat
open Go.RowKit
set_option linter.unusedSimpArgs false
set_option linter.unusedVariables false
def RetRt (mb cb g cap:Nat) (mv:Value) (f:Nat→Pg) (q:Int) (c':CM) (w:World) (Hs Fr:HL) (e:Ending) (w':World):Prop :=
 ∃ Hc',e=.returned (.bool true)∧ChipAt cb g cap mv c' Hc'∧Holds w' ((mb,moO f q)::(Hs++(Hc'++Fr)))∧Grew w w'
set_option maxRecDepth 20000 in
set_option maxHeartbeats 4000000 in
theorem right_any {mb sb cb g cap:Nat} {mv:Value} {f:Nat→Pg} {q:Int} {s:SM} {c:CM} {Hs Hc Fr:HL} {w:World} {p:Nat} (hst:StAt sb cb s Hs) (hch:ChipAt cb g cap mv c Hc) (hH:Holds w ((mb,moO f q)::(Hs++(Hc++Fr)))) (hp:p<64) (hops:c.ops≤999999999999)
  (hl:lookS s.hs (p:Int)=some (f p).h) (hg:(getS s c (p:Int)).2=(fillL (f p).n 128,(f p).h,0)∧(getS s c (p:Int)).1.on=true∨(getS s c (p:Int)).2=([],Hd.zero,4)∧(getS s c (p:Int)).1.on=false) :
  Calls Tryz.prog 64 #[.pointer (some ⟨mb,0,none⟩),.pointer (some ⟨sb,0,none⟩),.int .i64 (p:Int)] w (RetRt mb cb g cap mv f q (getS s c (p:Int)).1 w Hs Fr):=by
 have HHD:=Lib.hid (head_any (p:Int) hst (hH.p:Holds w (Hs++((mb,moO f q)::(Hc++Fr)))) (by omega) (by omega))
 have HGE:=Lib.hid (fun (wx:World) (F:HL) (h:Holds wx (Hs++(Hc++F)))=>get_any (p:Int) hst hch h hops)
 have HST:=Lib.hid hst
 have HMO:=Lib.hid (fun (wx:World) (F:HL) (h:Holds wx ((mb,moO f q)::F))=>mo_cells h (show p<256 by omega))
 rw [hl] at HHD
 have hpI:(p:Int)<256:=by omega
 have hg0:=Grew.refl w
 obtain ⟨⟨⟨ha,hb,hc,hj⟩,n,nd⟩,hfp⟩:∃ x:Pg,x=f p:=⟨_,rfl⟩
 rw [← hfp] at HHD HMO hg
 generalize getS s c (p:Int)=r at *
 obtain ⟨c4,rd,rh,rc⟩:=r
 dsimp only at *
 have k1:=err_eq
 have k2:=nil_eq
 have k3:=err_ne
 have k4:=nil_ne
 clear hst hch hl hfp hops
 go_enter Tryz.func64,Tryz.ntmps64
 go_wp2_with fail
 refine HHD.out.mono ?_
 rintro e w1 ⟨rfl,hH1,hg1⟩
 rw [show ((some (⟨ha,hb,hc,hj⟩:Hd)).getD Hd.zero).agg=.agg #[.int .i64 ha,.int .u64 hb,.int .i64 hc,.int .i64 hj] from rfl,show (some (⟨ha,hb,hc,hj⟩:Hd)).isSome=true from rfl]
 have hH2:=hH1.alloc (.cells #[.int .i64 ha,.int .u64 hb,.int .i64 hc,.int .i64 hj] 37)
 have hG2:=(hg0.trans hg1).alloc (.cells #[.int .i64 ha,.int .u64 hb,.int .i64 hc,.int .i64 hj] 37)
 clear HHD hH1 hg1 hg0 hH
 go_upto_region 2 with fail
 generalize w1.alloc (.cells #[.int .i64 ha,.int .u64 hb,.int .i64 hc,.int .i64 hj] 37)=w2 at *
 generalize w1.heap.size=gh at *
 have HGT:=Lib.hid (HGE.out w2 ((gh,.cells #[.int .i64 ha,.int .u64 hb,.int .i64 hc,.int .i64 hj] 37)::((mb,moO f q)::Fr)) (hH2.p))
 clear HGE hH2
 rcases hg with ⟨h2,hon⟩ | ⟨h2,hon⟩
 ·simp only [Prod.mk.injEq] at h2
  obtain ⟨rfl,rfl,rfl⟩:=h2
  have HFL:=Lib.hid (fun (w:World) (F:HL) (h:Holds w F)=>fill_any n 128 w F h (by decide))
  have HDL:=Lib.hid (fillL_len n)
  generalize fillL n 128=D at *
  go_wp2_with fail
  refine HGT.out.mono ?_
  rintro e w3 ⟨v3,Hv3,ve3,He3,Hc3,rfl,hb3,he3,hch3,hH3,hg3⟩
  dsimp only at hb3 he3 hch3
  obtain ⟨rfl,rfl⟩:=isErr0 he3
  rw [show (⟨ha,hb,hc,hj⟩:Hd).agg=.agg #[.int .i64 ha,.int .u64 hb,.int .i64 hc,.int .i64 hj] from rfl]
  have HC3:=Lib.hid hch3
  have HB3:=Lib.hid hb3
  obtain ⟨A3,q3,rfl⟩:=hb3.val
  rw [HDL.out] at HB3 ⊢
  have hG3:=hG2.trans hg3
  clear he3 hb3 hch3 hg3 hG2 HGT
  go_upto_region 3 with fail
  have hHA:=hH3.alloc (.cells #[.int .i64 ha,.int .u64 hb,.int .i64 hc,.int .i64 hj] 37)
  have hGA:=hG3.alloc (.cells #[.int .i64 ha,.int .u64 hb,.int .i64 hc,.int .i64 hj] 37)
  generalize w3.alloc (.cells #[.int .i64 ha,.int .u64 hb,.int .i64 hc,.int .i64 hj] 37)=wA at *
  generalize w3.heap.size=gi at *
  have hHB:Holds wA ((mb,moO f q)::((gh,.cells #[.int .i64 ha,.int .u64 hb,.int .i64 hc,.int .i64 hj] 37)::((gi,.cells #[.int .i64 ha,.int .u64 hb,.int .i64 hc,.int .i64 hj] 37)::(Hv3++(Hs++(Hc3++Fr)))))):=hHA.p
  have HCP:=Lib.hid (stchip_any HST.out (hHB.p:Holds wA (Hs++(Hc3++Fr))))
  have hno:=non_any HC3.out (hHB.p:Holds wA (Hc3++(Hs++Fr)))
  rw [hon] at hno
  have HON:=Lib.hid hno
  clear hH3 hG3 hHA hno
  go_wp2_with fail
  refine HCP.out.mono ?_
  rintro e wx ⟨rfl,rfl⟩
  go_wp2_with fail
  refine HON.out.mono ?_
  rintro e wx ⟨rfl,rfl⟩
  go_upto_region 5 with fail
  have HSW:=Lib.hid (fun (wx:World) (F:HL) (h:Holds wx ((mb,moO f q)::((gh,.cells #[.int .i64 ha,.int .u64 hb,.int .i64 hc,.int .i64 hj] 37)::((gi,.cells #[.int .i64 ha,.int .u64 hb,.int .i64 hc,.int .i64 hj] 37)::F))))=>show wx.cell? ⟨mb,p * 6,none⟩=some (.int .i64 ha)∧wx.cell? ⟨mb,p * 6+1,none⟩=some (.int .u64 hb)∧wx.cell? ⟨mb,p * 6+2,none⟩=some (.int .i64 hc)∧wx.cell? ⟨mb,p * 6+3,none⟩=some (.int .i64 hj)∧wx.cell? ⟨mb,p * 6+4,none⟩=some (.int .i64 n)∧wx.cell? ⟨mb,p * 6+5,none⟩=some (.bool nd)∧wx.cell? ⟨gh,0,none⟩=some (.int .i64 ha)∧wx.cell? ⟨gh,1,none⟩=some (.int .u64 hb)∧wx.cell? ⟨gh,2,none⟩=some (.int .i64 hc)∧wx.cell? ⟨gh,3,none⟩=some (.int .i64 hj)∧wx.cell? ⟨gi,0,none⟩=some (.int .i64 ha)∧wx.cell? ⟨gi,1,none⟩=some (.int .u64 hb)∧wx.cell? ⟨gi,2,none⟩=some (.int .i64 hc)∧wx.cell? ⟨gi,3,none⟩=some (.int .i64 hj) from by
   obtain ⟨q0,q1,q2,q3,q4,q5⟩:=HMO.out wx _ h
   exact ⟨q0,q1,q2,q3,q4,q5,h.tail.hcell 0,h.tail.hcell 1,h.tail.hcell 2,h.tail.hcell 3,h.tail.tail.hcell 0,h.tail.tail.hcell 1,h.tail.tail.hcell 2,h.tail.tail.hcell 3⟩)
  refine Z_begin (fun wx=>wx.cell? ⟨mb,p * 6,none⟩=some (.int .i64 ha)∧wx.cell? ⟨mb,p * 6+1,none⟩=some (.int .u64 hb)∧wx.cell? ⟨mb,p * 6+2,none⟩=some (.int .i64 hc)∧wx.cell? ⟨mb,p * 6+3,none⟩=some (.int .i64 hj)∧wx.cell? ⟨mb,p * 6+4,none⟩=some (.int .i64 n)∧wx.cell? ⟨mb,p * 6+5,none⟩=some (.bool nd)∧wx.cell? ⟨gh,0,none⟩=some (.int .i64 ha)∧wx.cell? ⟨gh,1,none⟩=some (.int .u64 hb)∧wx.cell? ⟨gh,2,none⟩=some (.int .i64 hc)∧wx.cell? ⟨gh,3,none⟩=some (.int .i64 hj)∧wx.cell? ⟨gi,0,none⟩=some (.int .i64 ha)∧wx.cell? ⟨gi,1,none⟩=some (.int .u64 hb)∧wx.cell? ⟨gi,2,none⟩=some (.int .i64 hc)∧wx.cell? ⟨gi,3,none⟩=some (.int .i64 hj)) 34 (by kernel_rfl) (fun w1 hd=>HSW.out _ _ (hHB.dr hd)) (fun w1 hd hs=>?_)
  have hHc:=hHB.dr hd;have hGc:=hGA.trans (Grew.dr hd);clear hd hHB hGA
  refine Zt 0 29 ?_ rfl hs ?_ ?_
  rotate_left
  ·rintro wx ⟨m0,m1,m2,m3,m4,m5,h0,h1,h2,h3,i0,i1,i2,i3⟩;go_simp;try with_reducible rfl
  simp only [pt,sA,sS,sZ]
  refine Zt 1 30 ?_ rfl hs ?_ ?_
  rotate_left
  ·rintro wx ⟨m0,m1,m2,m3,m4,m5,h0,h1,h2,h3,i0,i1,i2,i3⟩;go_simp;try with_reducible rfl
  simp only [pt,sA,sS,sZ]
  refine Zt 2 31 ?_ rfl hs ?_ ?_
  rotate_left
  ·rintro wx ⟨m0,m1,m2,m3,m4,m5,h0,h1,h2,h3,i0,i1,i2,i3⟩;go_simp;try with_reducible rfl
  simp only [pt,sA,sS,sZ]
  refine Zt 3 32 ?_ rfl hs ?_ ?_
  rotate_left
  ·rintro wx ⟨m0,m1,m2,m3,m4,m5,h0,h1,h2,h3,i0,i1,i2,i3⟩;go_simp;try with_reducible rfl
  simp only [pt,sA,sS,sZ]
  refine Zt 4 33 ?_ rfl hs ?_ ?_
  rotate_left
  ·rintro wx ⟨m0,m1,m2,m3,m4,m5,h0,h1,h2,h3,i0,i1,i2,i3⟩;go_simp;try with_reducible rfl
  simp only [pt,sA,sS,sZ]
  refine Zt 5 34 ?_ rfl hs ?_ ?_
  rotate_left
  ·rintro wx ⟨m0,m1,m2,m3,m4,m5,h0,h1,h2,h3,i0,i1,i2,i3⟩;go_simp;try with_reducible rfl
  simp only [pt,sA,sS,sZ]
  refine Zt 6 35 ?_ rfl hs ?_ ?_
  rotate_left
  ·rintro wx ⟨m0,m1,m2,m3,m4,m5,h0,h1,h2,h3,i0,i1,i2,i3⟩;go_simp;try with_reducible rfl
  simp only [pt,sA,sS,sZ]
  refine Zt 7 36 ?_ rfl hs ?_ ?_
  rotate_left
  ·rintro wx ⟨m0,m1,m2,m3,m4,m5,h0,h1,h2,h3,i0,i1,i2,i3⟩;go_simp;try with_reducible rfl
  simp only [pt,sA,sS,sZ]
  refine Zt 8 37 ?_ rfl hs ?_ ?_
  rotate_left
  ·rintro wx ⟨m0,m1,m2,m3,m4,m5,h0,h1,h2,h3,i0,i1,i2,i3⟩;go_simp;try with_reducible rfl
  simp only [pt,sA,sS,sZ]
  refine Zt 9 38 ?_ rfl hs ?_ ?_
  rotate_left
  ·rintro wx ⟨m0,m1,m2,m3,m4,m5,h0,h1,h2,h3,i0,i1,i2,i3⟩;go_simp;try with_reducible rfl
  simp only [pt,sA,sS,sZ]
  refine Zt 10 39 ?_ rfl hs ?_ ?_
  rotate_left
  ·rintro wx ⟨m0,m1,m2,m3,m4,m5,h0,h1,h2,h3,i0,i1,i2,i3⟩;go_simp;try with_reducible rfl
  simp only [pt,sA,sS,sZ]
  refine Zt 11 40 ?_ rfl hs ?_ ?_
  rotate_left
  ·rintro wx ⟨m0,m1,m2,m3,m4,m5,h0,h1,h2,h3,i0,i1,i2,i3⟩;go_simp;try with_reducible rfl
  simp only [pt,sA,sS,sZ]
  refine Zt 12 41 ?_ rfl hs ?_ ?_
  rotate_left
  ·rintro wx ⟨m0,m1,m2,m3,m4,m5,h0,h1,h2,h3,i0,i1,i2,i3⟩;go_simp;try with_reducible rfl
  simp only [pt,sA,sS,sZ]
  refine Zt 13 42 ?_ rfl hs ?_ ?_
  rotate_left
  ·rintro wx ⟨m0,m1,m2,m3,m4,m5,h0,h1,h2,h3,i0,i1,i2,i3⟩;go_simp;try with_reducible rfl
  simp only [pt,sA,sS,sZ]
  refine Zt 14 43 ?_ rfl hs ?_ ?_
  rotate_left
  ·rintro wx ⟨m0,m1,m2,m3,m4,m5,h0,h1,h2,h3,i0,i1,i2,i3⟩;go_simp;try with_reducible rfl
  simp only [pt,sA,sS,sZ]
  refine Zt 15 44 ?_ rfl hs ?_ ?_
  rotate_left
  ·rintro wx ⟨m0,m1,m2,m3,m4,m5,h0,h1,h2,h3,i0,i1,i2,i3⟩;go_simp;try with_reducible rfl
  simp only [pt,sA,sS,sZ]
  refine Zt 16 45 ?_ rfl hs ?_ ?_
  rotate_left
  ·rintro wx ⟨m0,m1,m2,m3,m4,m5,h0,h1,h2,h3,i0,i1,i2,i3⟩;go_simp;try with_reducible rfl
  simp only [pt,sA,sS,sZ]
  refine Zt 17 46 ?_ rfl hs ?_ ?_
  rotate_left
  ·rintro wx ⟨m0,m1,m2,m3,m4,m5,h0,h1,h2,h3,i0,i1,i2,i3⟩;go_simp;try with_reducible rfl
  simp only [pt,sA,sS,sZ]
  refine Zt 18 47 ?_ rfl hs ?_ ?_
  rotate_left
  ·rintro wx ⟨m0,m1,m2,m3,m4,m5,h0,h1,h2,h3,i0,i1,i2,i3⟩;go_simp;try with_reducible rfl
  simp only [pt,sA,sS,sZ]
  refine Zt 19 48 ?_ rfl hs ?_ ?_
  rotate_left
  ·rintro wx ⟨m0,m1,m2,m3,m4,m5,h0,h1,h2,h3,i0,i1,i2,i3⟩;go_simp;try with_reducible rfl
  simp only [pt,sA,sS,sZ]
  refine Zt 20 49 ?_ rfl hs ?_ ?_
  rotate_left
  ·rintro wx ⟨m0,m1,m2,m3,m4,m5,h0,h1,h2,h3,i0,i1,i2,i3⟩;go_simp;try with_reducible rfl
  simp only [pt,sA,sS,sZ]
  refine Zt 21 50 ?_ rfl hs ?_ ?_
  rotate_left
  ·rintro wx ⟨m0,m1,m2,m3,m4,m5,h0,h1,h2,h3,i0,i1,i2,i3⟩;go_simp;try with_reducible rfl
  simp only [pt,sA,sS,sZ]
  refine Zt 22 51 ?_ rfl hs ?_ ?_
  rotate_left
  ·rintro wx ⟨m0,m1,m2,m3,m4,m5,h0,h1,h2,h3,i0,i1,i2,i3⟩;go_simp;try with_reducible rfl
  simp only [pt,sA,sS,sZ]
  refine Zt 23 52 ?_ rfl hs ?_ ?_
  rotate_left
  ·rintro wx ⟨m0,m1,m2,m3,m4,m5,h0,h1,h2,h3,i0,i1,i2,i3⟩;go_simp;try with_reducible rfl
  simp only [pt,sA,sS,sZ]
  refine Zt 24 53 ?_ rfl hs ?_ ?_
  rotate_left
  ·rintro wx ⟨m0,m1,m2,m3,m4,m5,h0,h1,h2,h3,i0,i1,i2,i3⟩;go_simp;try with_reducible rfl
  simp only [pt,sA,sS,sZ]
  refine Zt 25 54 ?_ rfl hs ?_ ?_
  rotate_left
  ·rintro wx ⟨m0,m1,m2,m3,m4,m5,h0,h1,h2,h3,i0,i1,i2,i3⟩;go_simp;try with_reducible rfl
  simp only [pt,sA,sS,sZ]
  refine Zt 26 55 ?_ rfl hs ?_ ?_
  rotate_left
  ·rintro wx ⟨m0,m1,m2,m3,m4,m5,h0,h1,h2,h3,i0,i1,i2,i3⟩;go_simp;try with_reducible rfl
  simp only [pt,sA,sS,sZ]
  refine Zt 27 56 ?_ rfl hs ?_ ?_
  rotate_left
  ·rintro wx ⟨m0,m1,m2,m3,m4,m5,h0,h1,h2,h3,i0,i1,i2,i3⟩;go_simp;try with_reducible rfl
  simp only [pt,sA,sS,sZ]
  refine Zt 28 57 ?_ rfl hs ?_ ?_
  rotate_left
  ·rintro wx ⟨m0,m1,m2,m3,m4,m5,h0,h1,h2,h3,i0,i1,i2,i3⟩;go_simp;try with_reducible rfl
  simp only [pt,sA,sS,sZ]
  refine Zt 29 58 ?_ rfl hs ?_ ?_
  rotate_left
  ·rintro wx ⟨m0,m1,m2,m3,m4,m5,h0,h1,h2,h3,i0,i1,i2,i3⟩;go_simp;try with_reducible rfl
  simp only [pt,sA,sS,sZ]
  refine Z_mid 30 rfl (by kernel_rfl) (fun K hK=>?_)
  have ⟨m0,m1,m2,m3,m4,m5,h0,h1,h2,h3,i0,i1,i2,i3⟩:=hs
  go_simp;refine (HFL.out w1 _ hHc).mono ?_;rintro e wB ⟨vB,HB,rfl,hbB,hHd,hgB⟩;have hGd:=hGc.trans hgB;have HSM:=Lib.hid (same_any (.slice A3 128 q3) vB D D wB (HB3.out.at_ (Fr:=[]) (hHd.p)) (hbB.at_ hHd));rw [decide_eq_true (rfl:D=D)] at HSM;obtain ⟨AB,qB,rfl⟩:=hbB.val;rw [HDL.out] at HSM ⊢;have hHe:Holds wB ((mb,moO f q)::((gh,.cells #[.int .i64 ha,.int .u64 hb,.int .i64 hc,.int .i64 hj] 37)::((gi,.cells #[.int .i64 ha,.int .u64 hb,.int .i64 hc,.int .i64 hj] 37)::(HB++(Hv3++(Hs++(Hc3++Fr))))))):=hHd.p;clear hHc hGc hbB hgB hHd
  clear m0 m1 m2 m3 m4 m5 h0 h1 h2 h3 i0 i1 i2 i3
  refine hK _ _ (HSW.out _ _ hHe) (fun hs2=>?_);clear hK K hs;have hs:=hs2;clear hs2
  refine Z_mid 31 rfl (by kernel_rfl) (fun K hK=>?_)
  have ⟨m0,m1,m2,m3,m4,m5,h0,h1,h2,h3,i0,i1,i2,i3⟩:=hs
  go_simp;refine HSM.out.mono ?_;rintro e wC ⟨rfl,qq,rfl⟩;have hHf:=hHe.drewN qq;have hGf:=hGd.trans (Grew.dr ⟨qq,rfl⟩);clear hHe hGd HSM
  clear m0 m1 m2 m3 m4 m5 h0 h1 h2 h3 i0 i1 i2 i3
  refine hK _ _ (HSW.out _ _ hHf) (fun hs2=>?_);clear hK K hs;have hs:=hs2;clear hs2
  refine Zt 32 61 ?_ rfl hs ?_ ?_
  rotate_left
  ·rintro wx ⟨m0,m1,m2,m3,m4,m5,h0,h1,h2,h3,i0,i1,i2,i3⟩;go_simp;try with_reducible rfl
  simp only [pt,sA,sS,sZ]
  refine Zt 33 6 ?_ rfl hs ?_ ?_
  rotate_left
  ·rintro wx ⟨m0,m1,m2,m3,m4,m5,h0,h1,h2,h3,i0,i1,i2,i3⟩;go_simp;try with_reducible rfl
  simp only [pt,sA,sS,sZ]
  refine Z_done (by kernel_rfl) ?_ _
  go_wp2_with fail
  go_ret
  exact ⟨Hc3,rfl,HC3.out,hHf.p,hGf⟩
 ·simp only [Prod.mk.injEq] at h2
  obtain ⟨rfl,rfl,rfl⟩:=h2
  go_wp2_with fail
  refine HGT.out.mono ?_
  rintro e w3 ⟨v3,Hv3,ve3,He3,Hc3,rfl,hb3,he3,hch3,hH3,hg3⟩
  dsimp only at hb3 he3 hch3
  obtain ⟨b3,x3,rfl,_⟩:=isErrP8 he3 (show (4:Int)≠0 by decide)
  rw [show Hd.zero.agg=.agg #[.int .i64 0,.int .u64 0,.int .i64 0,.int .i64 0] from rfl]
  have HC3:=Lib.hid hch3
  obtain ⟨A3,q3,rfl⟩:=hb3.val
  have hG3:=hG2.trans hg3
  clear he3 hb3 hch3 hg3 hG2 HGT
  go_upto_region 3 with fail
  have hHA:=hH3.alloc (.cells #[.int .i64 0,.int .u64 0,.int .i64 0,.int .i64 0] 37)
  have hGA:=hG3.alloc (.cells #[.int .i64 0,.int .u64 0,.int .i64 0,.int .i64 0] 37)
  generalize w3.alloc (.cells #[.int .i64 0,.int .u64 0,.int .i64 0,.int .i64 0] 37)=wA at *
  generalize w3.heap.size=gi at *
  have hHB:Holds wA ((mb,moO f q)::(Hs++(Hc3++Fr))):=hHA.p
  have HCP:=Lib.hid (stchip_any HST.out (hHB.p:Holds wA (Hs++(Hc3++Fr))))
  have hno:=non_any HC3.out (hHB.p:Holds wA (Hc3++(Hs++Fr)))
  rw [hon] at hno
  have HON:=Lib.hid hno
  clear hH3 hG3 hHA hno
  go_wp2_with fail
  refine HCP.out.mono ?_
  rintro e wx ⟨rfl,rfl⟩
  go_wp2_with fail
  refine HON.out.mono ?_
  rintro e wx ⟨rfl,rfl⟩
  go_wp2_with fail
  go_ret
  exact ⟨Hc3,rfl,HC3.out,hHB,hGA⟩
end Go.Proofs.YtoelopghilbfeaaGreat
namespace Go.Proofs.YtoelopghilbfeaaGreat
open Go.RowKit
set_option linter.unusedSimpArgs false
set_option linter.unusedVariables false
set_option maxRecDepth 20000 in
set_option maxHeartbeats 4000000 in
theorem stands_any {mb sb cb:Nat} {f:Nat→Pg} {q:Int} {s:SM} {Hs Fr:HL} {w:World} (hst:StAt sb cb s Hs) (hH:Holds w ((mb,moO f q)::(Hs++Fr))) (hy:Yok s.P s.y) (hB:s.B=16) (hP:s.P=4) (heq:neededS s=numsIf (fun j=>(f j).need) 256) :
  Calls Tryz.prog 66 #[.pointer (some ⟨mb,0,none⟩),.pointer (some ⟨sb,0,none⟩)] w (RetFr (.bool true) w ((mb,moO f q)::(Hs++Fr))):=by
 have HMN:=Lib.hid (moneeded_any hH)
 rw [← heq] at HMN
 have HND:=Lib.hid (fun (wx:World) (F:HL) (h:Holds wx (Hs++F))=>needed_any hst h hy)
 have HBK:=Lib.hid (fun (k:Int) (wx:World) (F:HL) (hx:Holds wx (Hs++F)) (h1:0≤k) (h2:k<16)=>block_any k hst hx hy h1 (by omega))
 have HRE:=Lib.hid (show neededS s=neededTo' s 16 by unfold neededS;rw [hB])
 have HLN:=Lib.hid (fun (k:Nat) (hk:k≤16)=>show (neededTo' s k).length≤256 by
  have h1:=neededTo'_len hy k
  have h2:k * s.P≤16 * 4:=Nat.mul_le_mul (by omega) (by omega)
  omega)
 have HPL:=Lib.hid (fun k=>show (pagesOf s k).length≤8 by have:=pagesOf_len hy k;omega)
 have hg0:=Grew.refl w
 generalize neededS s=ND at *
 clear hst hH hy hB hP heq
 go_enter Tryz.func66,Tryz.ntmps66
 go_wp2_with fail
 refine HMN.out.mono ?_
 rintro e w1 ⟨v1,H1,rfl,hv1,hH1,hg1⟩
 have hG1:=hg0.trans hg1
 have HN2:=Lib.hid (HND.out w1 (H1++((mb,moO f q)::Fr)) (hH1.p))
 have HV1:=Lib.hid hv1
 clear hv1 hH1 hg1 hg0 HMN HND
 go_wp2_with fail
 refine HN2.out.mono ?_
 rintro e w2 ⟨v2,H2,rfl,hv2,hH2,hg2⟩
 have hG2:=hG1.trans hg2
 have HSM:=Lib.hid (sameI_any v2 v1 ND ND w2 (hv2.at_ (Fr:=Hs++(H1++((mb,moO f q)::Fr))) hH2) (HV1.out.at_ (Fr:=H2++(Hs++((mb,moO f q)::Fr))) (hH2.p)))
 rw [decide_eq_true (rfl:ND=ND)] at HSM
 have hH3:Holds w2 (H1++((mb,moO f q)::(Hs++Fr))):=hH2.p
 clear hv2 hH2 hg2 hG1 HN2
 go_wp2_with fail
 refine HSM.out.mono ?_
 rintro e w3 ⟨rfl,n,rfl⟩
 have hH4:=hH3.drewN n
 have hG4:=hG2.trans (Grew.dr ⟨n,rfl⟩)
 clear hH3 hG2 HSM
 generalize w2.drewN n=w3 at *
 go_wp2_with fail
 go_loopw [6,7] (fun out i wr=>NdsTo (neededTo' s) 16 w (H1++((mb,moO f q)::(Hs++Fr))) out i wr) (fun _ i _=>16 - (intOf i).toNat)
 case atStart=>exact ⟨0,[],by omega,rfl,IsRow.nil _ _,hH4,hG4⟩
 case round =>
  clear hH4 hG4
  obtain ⟨k,Ho,hk,rfl,ho,hHr,hgr⟩:=hrel
  have HOU:=Lib.hid ho
  clear ho
  by_cases hlt:k<16
  ·have hkn:(k:Int)<16:=by omega
   have hkw:IntKind.i64.wrap ((k:Int)+1)=k+1:=wrap_i64_id (by omega) (by omega)
   have HB1:=Lib.hid (HBK.out (k:Int) wr (Ho++(H1++((mb,moO f q)::Fr))) (hHr.p) (by omega) (by omega))
   have HSU:=Lib.hid (neededTo'_succ s k)
   have HL1:=Lib.hid (HLN.out (k+1) (by omega))
   rw [HSU.out,List.length_append] at HL1
   have HP1:=Lib.hid (HPL.out (k:Int))
   clear hHr
   generalize neededTo' s k=ot at *
   generalize pagesOf s (k:Int)=pg at *
   obtain ⟨Ao,co,rfl⟩:=HOU.out.val
   have HROW:=Lib.hid (show IsRow 3 1 (.slice Ao ot.length co) ot.length (ot.map (Value.int .i64)) Ho from HOU.out)
   go_wp2_with fail
   refine HB1.out.mono ?_
   rintro e w2 ⟨v2,H2,rfl,hv2,hH2,hg2⟩
   have hH3:Holds w2 (Ho++(H2++(H1++((mb,moO f q)::(Hs++Fr))))):=hH2.p
   have HSR:=Lib.hid (hv2.at_ hH2)
   have hG2:=hgr.trans hg2
   clear hv2 hH2 hg2 hgr HB1
   go_wp2_with (at_builtin;refine wpList_append_T tInts (by rfl) (.tmp 19) (.tmp 22) (by rfl) (by rfl) (by rfl) HROW.out hH3 HSR.out (by intro x hx;obtain ⟨z,_,rfl⟩:=List.mem_map.1 hx;simp [Value.oneCell']) (by have:=HL1.out;simp only [maxLen];omega) (by have:=HL1.out;omega) ?_;intro A' c' w' H' hrow hH4 hg4)
   go_roundw
   case rel =>
    refine ⟨k+1,H',by omega,by go_num,?_,hH4.p,hG2.trans hg4⟩
    rw [HSU.out]
    unfold IsNums
    rw [List.length_append,List.map_append]
    exact hrow
   case measure=>simp only [intOf];omega
  ·obtain rfl:k=16:=by omega
   rw [← HRE.out] at HOU
   have HSM:=Lib.hid (sameI_any _ v1 ND ND wr (HOU.out.at_ (Fr:=H1++((mb,moO f q)::(Hs++Fr))) hHr) (HV1.out.at_ (Fr:=Ho++((mb,moO f q)::(Hs++Fr))) (hHr.p)))
   rw [decide_eq_true (rfl:ND=ND)] at HSM
   have hHe:Holds wr ((mb,moO f q)::(Hs++Fr)):=hHr.right.right
   clear hHr
   go_wp2_with fail
   refine HSM.out.mono ?_
   rintro e w3 ⟨rfl,n,rfl⟩
   have hHf:=hHe.drewN n
   have hGf:=hgr.trans (Grew.dr ⟨n,rfl⟩)
   clear hHe hgr HSM
   go_wp2_with fail
   go_ret
   exact ⟨rfl,hHf,hGf⟩
end Go.Proofs.YtoelopghilbfeaaGreat
namespace Go.Proofs.YtoelopghilbfeaaGreat
open Go.RowKit
set_option linter.unusedSimpArgs false
set_option linter.unusedVariables false
theorem hd_eql (a b c d a' b' c' d':Int) (w:World):(binOp .eql 37 (.agg #[.int .i64 a,.int .u64 b,.int .i64 c,.int .i64 d]) (.agg #[.int .i64 a',.int .u64 b',.int .i64 c',.int .i64 d'])).run Tryz.prog w=.ok (.bool (decide ((⟨a,b,c,d⟩:Hd)=⟨a',b',c',d'⟩))) w:=by
 have e:decide ((⟨a,b,c,d⟩:Hd)=⟨a',b',c',d'⟩)=(decide (a=a') && (decide (b=b') && (decide (c=c') && decide (d=d')))):=by
  rw [Bool.eq_iff_iff]
  simp only [decide_eq_true_eq,Bool.and_eq_true,Hd.mk.injEq]
 rw [e]
 by_cases h1:a=a'
 ·by_cases h2:b=b'
  ·by_cases h3:c=c'
   ·by_cases h4:d=d'
    ·subst h1 h2 h3 h4;go_simp
    ·subst h1 h2 h3;go_simp
   ·subst h1 h2;go_simp
  ·subst h1;go_simp
 ·go_simp
theorem hd_neq (a b c d a' b' c' d':Int) (w:World):(binOp .neq 37 (.agg #[.int .i64 a,.int .u64 b,.int .i64 c,.int .i64 d]) (.agg #[.int .i64 a',.int .u64 b',.int .i64 c',.int .i64 d'])).run Tryz.prog w=.ok (.bool (!decide ((⟨a,b,c,d⟩:Hd)=⟨a',b',c',d'⟩))) w:=by
 have e:decide ((⟨a,b,c,d⟩:Hd)=⟨a',b',c',d'⟩)=(decide (a=a') && (decide (b=b') && (decide (c=c') && decide (d=d')))):=by
  rw [Bool.eq_iff_iff]
  simp only [decide_eq_true_eq,Bool.and_eq_true,Hd.mk.injEq]
 rw [e]
 by_cases h1:a=a'
 ·by_cases h2:b=b'
  ·by_cases h3:c=c'
   ·by_cases h4:d=d'
    ·subst h1 h2 h3 h4;go_simp
    ·subst h1 h2 h3;go_simp
   ·subst h1 h2;go_simp
  ·subst h1;go_simp
 ·go_simp
def NDn (t:SM):List Nat:=(List.range 64).filter (isN t)
def fnd (f:Nat→Pg) (t:SM) (last:Pg) (n:Nat):Pg:=match lookS t.hs (n:Int) with
 |some h=>if (f n).need=false∧h=last.h then last else f n
 |none=>f n
def fkk (f:Nat→Pg) (t:SM) (last:Pg) (k n:Nat):Pg:=if n∈(NDn t).take k then fnd f t last n else f n
def iskk (t:SM) (k n:Nat):Bool:=decide (n∈(NDn t).take k)
theorem fkk_zero (f:Nat→Pg) (t:SM) (last:Pg):fkk f t last 0=f:=by funext n;unfold fkk;rw [List.take_zero,if_neg (by simp)]
theorem iskk_zero (t:SM):iskk t 0=fun _=>false:=by funext n;unfold iskk;rw [List.take_zero];simp
theorem NDn_nodup (t:SM):(NDn t).Nodup:=List.nodup_range.filter _
theorem NDn_at {t:SM} {k:Nat} (hk:k<(NDn t).length):(NDn t)[k]<64∧isN t (NDn t)[k]=true∧(NDn t)[k] ∉ (NDn t).take k:=by
 have h:=List.mem_filter.1 (List.getElem_mem hk)
 refine ⟨List.mem_range.1 h.1,h.2,fun hm=>?_⟩
 obtain ⟨j,hj,e⟩:=List.mem_iff_getElem.1 hm
 have hjk:j<k:=by rw [List.length_take] at hj;omega
 rw [List.getElem_take] at e
 exact (List.pairwise_iff_getElem.1 (NDn_nodup t)) j k (by omega) hk hjk e
theorem NDn_len (t:SM):(NDn t).length≤64:=by
 have:=List.length_filter_le (isN t) (List.range 64)
 rw [List.length_range] at this
 exact this
theorem fkk_at {f:Nat→Pg} {t:SM} {last:Pg} {k:Nat} (hk:k<(NDn t).length):fkk f t last k (NDn t)[k]=f (NDn t)[k]:=by
 unfold fkk;rw [if_neg (NDn_at hk).2.2]
theorem mem_take_succ {t:SM} {k:Nat} (hk:k<(NDn t).length) (n:Nat):n∈(NDn t).take (k+1)↔n∈(NDn t).take k∨n=(NDn t)[k]:=by
 rw [List.take_succ_eq_append_getElem hk,List.mem_append,List.mem_singleton]
theorem fkk_succ {f:Nat→Pg} {t:SM} {last:Pg} {k:Nat} (hk:k<(NDn t).length):fkk f t last (k+1)=updF (fkk f t last k) (NDn t)[k] (fnd f t last (NDn t)[k]):=by
 funext n
 show (if n∈(NDn t).take (k+1) then fnd f t last n else f n)=if n=(NDn t)[k] then fnd f t last (NDn t)[k] else if n∈(NDn t).take k then fnd f t last n else f n
 have hm:=mem_take_succ hk n
 by_cases e:n=(NDn t)[k]
 ·rw [if_pos e,if_pos (hm.2 (Or.inr e)),e]
 ·rw [if_neg e]
  by_cases e2:n∈(NDn t).take k
  ·rw [if_pos (hm.2 (Or.inl e2)),if_pos e2]
  ·rw [if_neg (fun h=>(hm.1 h).elim e2 e),if_neg e2]
theorem iskk_succ {t:SM} {k:Nat} (hk:k<(NDn t).length):iskk t (k+1)=updF (iskk t k) (NDn t)[k] true:=by
 funext n
 show decide (n∈(NDn t).take (k+1))=if n=(NDn t)[k] then true else decide (n∈(NDn t).take k)
 have hm:=mem_take_succ hk n
 by_cases e:n=(NDn t)[k]
 ·rw [if_pos e];exact decide_eq_true (hm.2 (Or.inr e))
 ·rw [if_neg e,Bool.eq_iff_iff,decide_eq_true_eq,decide_eq_true_eq,hm]
  exact ⟨fun h=>h.elim id fun h=>absurd h e,Or.inl⟩
theorem fkk_same {f:Nat→Pg} {t:SM} {last:Pg} {k:Nat} (hk:k<(NDn t).length) (h:fnd f t last (NDn t)[k]=f (NDn t)[k]):fkk f t last (k+1)=fkk f t last k:=by
 rw [fkk_succ hk,h]
 funext n
 unfold updF
 split
 ·next e=>rw [e,fkk_at hk]
 ·rfl
theorem isN_none {t:SM} {n:Nat} (h:isN t n=false):lookS t.hs (n:Int)=none:=by
 unfold isN at h
 cases e:lookS t.hs (n:Int) with
 |none=>rfl
 |some x=>rw [e] at h;exact absurd h (by simp)
theorem fkk_end {f:Nat→Pg} {t:SM} {c:CM} {last:Pg} (hC:Cont t c) (hB:t.B=16) (hP:t.P=4):fkk f t last (NDn t).length=fnd f t last:=by
 funext n
 unfold fkk
 rw [List.take_length]
 split
 ·rfl
 ·next hn =>
  unfold fnd
  cases e:lookS t.hs (n:Int) with
  |none=>rfl
  |some h =>
   exfalso
   obtain ⟨k,p,h1,h2,h3⟩:=hC.keys _ _ e
   have h64:n<64:=by rw [hP,← nat_key] at h3;omega
   exact hn (List.mem_filter.2 ⟨List.mem_range.2 h64,by unfold isN;rw [e];rfl⟩)
theorem needed_ND {t:SM} {c:CM} (hC:Cont t c) (hB:t.B=16) (hP:t.P=4):neededS t=(NDn t).map fun i:Nat=>(i:Int):=by
 rw [needed_eq hC,hB,hP]
 rfl
def KO (c c':CM):Prop:=c.ms=[]→c.on=true→c'.on=true
def NF (c:CM):Prop:=∀ (k:Nat) (x:CB),c.blocks[k]?=some x→x.failed=false
def KP (c c':CM):Prop:=c.ms=[]→NF c→c.on=true→c'.on=true∧NF c'
theorem KP.refl (c:CM):KP c c:=fun _ h1 h2=>⟨h2,h1⟩
theorem KP.of {c c':CM} (g:Reads c c') (h:KO c c'):KP c c':=fun h1 h2 h3=>⟨h h1 h3,fun k x hx=>h2 k x (by rw [← g.blocks];exact hx)⟩
theorem KO.dark {c c':CM} {P:Prop} (h:(P∧c.on=true∧c'.on=true)∨(P∧c'.on=false∧(c.on=true→DarkBy c c'))):KO c c':=by
 intro hm hon
 rcases h with ⟨_,_,b⟩ | ⟨_,_,d⟩
 ·exact b
 ·obtain ⟨_,m,hm',_⟩:=d hon
  rw [hm] at hm'
  exact absurd hm' (by simp)
structure FdHyp (f:Nat→Pg) (last:Pg) (t:SM) (c:CM):Prop where
 cont:Cont t c
 geo:t.B=16∧t.P=4∧t.Z=128
 ln:last.need=false
 some:∀ (n:Nat) (h:Hd),n<64→lookS t.hs (n:Int)=some h→h=(fnd f t last n).h∧c.vAt (n / 4) (n % 4)=some (fillL (fnd f t last n).n 128,h)
 need:∀ n:Nat,n<256→(f n).need=true→n<64∧isN t n=true
theorem fnd_need {f:Nat→Pg} {t:SM} {last:Pg} (hl:last.need=false) (n:Nat):(fnd f t last n).need=(f n).need:=by
 unfold fnd
 split
 ·split
  ·next h=>rw [hl,h.1]
  ·rfl
 ·rfl
theorem fnd_no {f:Nat→Pg} {t:SM} {last:Pg} {n:Nat} {h:Hd} (hl:lookS t.hs (n:Int)=some h) (hn:¬ ((f n).need=false∧h=last.h)):fnd f t last n=f n:=by
 unfold fnd;rw [hl];dsimp only;rw [if_neg hn]
theorem fnd_yes {f:Nat→Pg} {t:SM} {last:Pg} {n:Nat} {h:Hd} (hl:lookS t.hs (n:Int)=some h) (hn:(f n).need=false∧h=last.h):fnd f t last n=last:=by
 unfold fnd;rw [hl];dsimp only;rw [if_pos hn]
end Go.Proofs.YtoelopghilbfeaaGreat
