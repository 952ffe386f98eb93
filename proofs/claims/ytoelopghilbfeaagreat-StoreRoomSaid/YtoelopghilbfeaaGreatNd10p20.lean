/-
  Package nand: Erase, where the dark befalls, of a block that did not fail.
-/
import Derived.Test.YtoelopghilbfeaaGreatNd10
namespace Go.Proofs.YtoelopghilbfeaaGreat
open Go.RowKit
set_option linter.unusedSimpArgs false
set_option linter.unusedVariables false
section
variable {b g cap:Nat} {mv:Value} {c:CM} {H Fr:HL} {w:World}
set_option maxRecDepth 20000 in
set_option maxHeartbeats 4000000 in
theorem nerase_20 (k:Nat) (x:CB) (h:ChipAt b g cap mv c H) (hH:Holds w (H++Fr)) (hops:c.ops<1000000000000) (hx:c.blocks[k]?=some x) (hf:x.failed=false) (hk0:c.mi.kind=2) :
  Calls Tryz.prog 83 #[.pointer (some ⟨b,0,none⟩),.int .i64 (k:Int)] w (RetChG b g cap mv (c.erase k x) w Fr):=by
 have hth:c.there (k:Int)=true:=by have:=(List.getElem?_eq_some_iff.1 hx).1;unfold CM.there;exact decide_eq_true (by omega)
 have HT:=Lib.hid (nthere_any (w:=w) (k:Int) h hH)
 rw [hth] at HT
 clear hth
 have hp1:=h.cok.1
 have hp8:=h.cok.2.1
 have hZ:=h.cok.2.2.2.1
 have h32:=h.cok.2.2.2.2.2.1
 have hmis:=h.cok.2.2.2.2.2.2.2.2.2.2.1
 have hcap:=h.caps
 unfold maxLen at hcap
 have hbg:=nbegin_any (w:=w) true h hH (by omega)
 have hrd:c.erase k x=if (c.beg true).2.2≠0 then ((c.beg true).1,(c.beg true).2.2) else if x.mark=true then (c.beg true).1.ord (c.beg true).2.1 false else eraseEnd (c.beg true).1 (c.beg true).2.1 k x:=rfl
 have k1:=err_ne
 have k2:=nil_ne
 have HX:=Lib.hid hx
 have HK0:=Lib.hid hk0
 have hbc:=beg_cases8 c true
 obtain ⟨⟨c9,⟨ma,mk,mb,mf⟩,ec⟩,hr9⟩:∃ r,r=c.beg true:=⟨_,rfl⟩
 rw [← hr9] at hbc hrd hbg
 simp only at hbc hrd
 have HBC:=Lib.hid hbc
 have HB9:=Lib.hid hbg
 have HRD:=Lib.hid hrd
 have hwx:x.wear≤c.ops:=(h.cok.2.2.2.2.2.2.2.2.2.2.2.2.2 x (List.mem_of_getElem? hx)).2.2.2.2.2
 have hwx0:0≤x.wear:=(h.cok.2.2.2.2.2.2.2.2.2.2.2.2.2 x (List.mem_of_getElem? hx)).2.2.2.2.1
 clear h hx hk0 hrd hbc hbg hr9
 go_enter Tryz.func83,Tryz.ntmps83
 go_wp2_with fail
 refine HT.out.mono ?_
 rintro e wx ⟨rfl,rfl⟩
 clear HT
 go_wp2_with fail
 refine HB9.out.mono ?_
 rintro e w1 ⟨ve,H1,He,G,rfl,he,hc1,hH1,hg1⟩
 simp only [Mi.agg,cellB] at he hc1 hH1 ⊢
 have HC1:=Lib.hid hc1
 have HHA:=Lib.hid (hH1.alloc (.cells #[.int .i64 ma,.int .i64 mk,.int .i64 mb,.int .u8 (mf.toNat:Int)] 48))
 have hGA:=hg1.alloc (.cells #[.int .i64 ma,.int .i64 mk,.int .i64 mb,.int .u8 (mf.toNat:Int)] 48)
 clear hc1
 by_cases he0:ec=0
 ·subst he0
  obtain ⟨rfl,rfl⟩:=isErr0 he
  obtain ⟨h9,_,hon⟩:(c9,(⟨ma,mk,mb,mf⟩:Mi),(0:Int))=({ c with ops:=c.ops+1 },c.mi,0)∧True∧c.on=true:=by
   rcases HBC.out with ⟨h1,_⟩ | ⟨h1,_,h3⟩
   ·exact absurd rfl h1
   ·exact ⟨h1,trivial,h3⟩
  injection h9 with h9 h9m
  injection h9m with h9m _
  have hmk0:mk=2:=by have:=HK0.out;rw [← h9m] at this;exact this
  subst hmk0
  have HX9:=Lib.hid (show c9.blocks[k]?=some x by rw [h9];exact HX.out)
  have hZ9:c9.Z=c.Z:=by rw [h9]
  have hP9:c9.P=c.P:=by rw [h9]
  have hO9:c9.ops=c.ops+1:=by rw [h9]
  have hM9:c9.misuse=c.misuse:=by rw [h9]
  have hHB:Holds (w1.alloc (.cells #[.int .i64 ma,.int .i64 2,.int .i64 mb,.int .u8 (mf.toNat:Int)] 48)) (H1++(G++((w1.heap.size,.cells #[.int .i64 ma,.int .i64 2,.int .i64 mb,.int .u8 (mf.toNat:Int)] 48)::Fr))):=HHA.out.p
  have d3:=(HC1.out.heads hHB).2.2.2.1
  have hbl9:c9.blocks.length=c.blocks.length:=by rw [h9]
  rw [hbl9] at d3
  have hkl:k<c.blocks.length:=(List.getElem?_eq_some_iff.1 HX.out).1
  obtain ⟨z0,z1,z2,z3,_⟩:=HHA.out.get4
  have HOF:=Lib.hid (show c9.ord ⟨ma,2,mb,mf⟩ false=({ c9 with misuse:=c9.misuse+1,on:=false },4) from rfl)
  have HOT:=Lib.hid (show c9.ord ⟨ma,2,mb,mf⟩ true=(c9,0) from rfl)
  have HRD0:=Lib.hid (show c.erase k x=if x.mark=true then c9.ord ⟨ma,2,mb,mf⟩ false else eraseEnd c9 ⟨ma,2,mb,mf⟩ k x by rw [HRD.out,if_neg (by simp)])
  clear he HHA hH1 h9 h9m hon HRD
  cases hmk:x.mark
  ·have HMK:=Lib.hid hmk
   go_upto_region 5 with fail
   generalize w1.alloc (.cells #[.int .i64 ma,.int .i64 2,.int .i64 mb,.int .u8 (mf.toNat:Int)] 48)=wA at *
   generalize w1.heap.size=t at *
   have HS:=Lib.hid (fun (wx:World) (cx:CM) (Hx F:HL) (hcx:ChipAt b g cap mv cx Hx) (hbx:cx.blocks[k]?=some x) (hx:Holds wx (Hx++F)) (hm:(t,Obj.cells #[.int .i64 ma,.int .i64 2,.int .i64 mb,.int .u8 (mf.toNat:Int)] 48)∈F) =>
    show wx.cell? ⟨t,0,none⟩=some (.int .i64 ma)∧wx.cell? ⟨t,1,none⟩=some (.int .i64 2)∧wx.cell? ⟨t,2,none⟩=some (.int .i64 mb)∧wx.cell? ⟨t,3,none⟩=some (.int .u8 (mf.toNat:Int))∧wx.cell? ⟨g,k * 5+4,none⟩=some (.bool false) from by
     obtain ⟨pv,hB⟩:=hcx.open_ hbx
     obtain ⟨_,d1,_,_,d4,_⟩:=hB.cells wx F hx
     rw [hmk] at d4
     exact ⟨hx.cell (List.mem_append_right _ hm) 0,hx.cell (List.mem_append_right _ hm) 1,hx.cell (List.mem_append_right _ hm) 2,hx.cell (List.mem_append_right _ hm) 3,d4⟩)
   clear hmk z0 z1 z2 z3
   refine Z_begin (fun wx=>wx.cell? ⟨t,0,none⟩=some (.int .i64 ma)∧wx.cell? ⟨t,1,none⟩=some (.int .i64 2)∧wx.cell? ⟨t,2,none⟩=some (.int .i64 mb)∧wx.cell? ⟨t,3,none⟩=some (.int .u8 (mf.toNat:Int))∧wx.cell? ⟨g,k * 5+4,none⟩=some (.bool false)) 9 (by kernel_rfl) (fun w1 hd=>HS.out _ c9 H1 _ HC1.out HX9.out (hHB.dr hd) (by simp)) (fun w1 hd hs=>?_)
   have hH3:=hHB.dr hd;have hG3:=hGA.trans (Grew.dr hd);clear hd hHB hGA
   refine Zt 0 28 ?_ rfl hs ?_ ?_
   rotate_left
   ·rintro wx ⟨x0,x1,x2,x3,x4⟩;go_simp;try with_reducible rfl
   simp only [pt,sA,sS,sZ]
   refine Zt 1 29 ?_ rfl hs ?_ ?_
   rotate_left
   ·rintro wx ⟨x0,x1,x2,x3,x4⟩;go_simp;try with_reducible rfl
   simp only [pt,sA,sS,sZ]
   refine Zt 2 30 ?_ rfl hs ?_ ?_
   rotate_left
   ·rintro wx ⟨x0,x1,x2,x3,x4⟩;go_simp;try with_reducible rfl
   simp only [pt,sA,sS,sZ]
   refine Zt 3 31 ?_ rfl hs ?_ ?_
   rotate_left
   ·rintro wx ⟨x0,x1,x2,x3,x4⟩;go_simp;try with_reducible rfl
   simp only [pt,sA,sS,sZ]
   refine Zt 4 32 ?_ rfl hs ?_ ?_
   rotate_left
   ·rintro wx ⟨x0,x1,x2,x3,x4⟩;go_simp;try with_reducible rfl
   simp only [pt,sA,sS,sZ]
   refine Zt 5 33 ?_ rfl hs ?_ ?_
   rotate_left
   ·rintro wx ⟨x0,x1,x2,x3,x4⟩;go_simp;try with_reducible rfl
   simp only [pt,sA,sS,sZ]
   refine Zt 6 34 ?_ rfl hs ?_ ?_
   rotate_left
   ·rintro wx ⟨x0,x1,x2,x3,x4⟩;go_simp;try with_reducible rfl
   simp only [pt,sA,sS,sZ]
   refine Z_mid 7 rfl (by kernel_rfl) (fun K hK=>?_)
   have ⟨x0,x1,x2,x3,x4⟩:=hs
   go_simp;refine (nordered_any ma 2 mb mf true HC1.out hH3 (by rw [hO9];omega) (fun _=>by rw [hO9,hM9];omega)).mono ?_;rintro e w4 ⟨G4,ve4,H4,He4,rfl,he4,hc4,hH4,hg4⟩;rw [HOT.out] at he4 hc4
   clear x0 x1 x2 x3 x4
   refine hK _ _ (HS.out _ _ H4 _ hc4 (by exact HX9.out) hH4 (by simp)) (fun hs2=>?_);clear hK K hs;have hs:=hs2;clear hs2
   refine Zt 8 8 ?_ rfl hs ?_ ?_
   rotate_left
   ·rintro wx ⟨x0,x1,x2,x3,x4⟩;go_simp;try with_reducible rfl
   simp only [pt,sA,sS,sZ]
   refine Z_done (by kernel_rfl) ?_ _
   obtain ⟨rfl,rfl⟩:=isErr0 he4
   have HC4:=Lib.hid hc4
   have HRD2:=Lib.hid (show c.erase k x=({ c9.setB k { x with pages:=List.replicate c.P (List.replicate (c.Z+28) mf),next:=if mf=255 then 0 else (c.P:Int),wear:=x.wear+1 } with on:=false },4) by rw [HRD0.out,if_neg (by rw [HMK.out];simp)];unfold eraseEnd;rw [if_pos rfl,if_neg (by rw [hf];decide),hP9,hZ9])
   clear he4 hc4 HRD0
   have hHE:Holds w4 (H4++(G4++(G++((t,.cells #[.int .i64 ma,.int .i64 2,.int .i64 mb,.int .u8 (mf.toNat:Int)] 48)::Fr)))):=hH4.p
   have hGE:=hG3.trans hg4
   have z1:w4.cell? ⟨t,1,none⟩=some (.int .i64 2):=hHE.cell (b:=t) (cs:=#[.int .i64 ma,.int .i64 2,.int .i64 mb,.int .u8 (mf.toNat:Int)]) (t:=48) (fz:=(0,0)) (by simp) 1
   obtain ⟨pv,hB⟩:=HC4.out.open_ HX9.out
   obtain ⟨_,_,_,d5,_⟩:=hB.cells w4 _ hHE
   rw [hf] at d5
   obtain ⟨_,_,e2',_,_,_,_,f2',_⟩:=hB.cells w4 _ hHE
   obtain ⟨H5,hc5,hH5⟩:=hB.setW _ _ (x.wear+1) hHE (by omega) (by show x.wear+1≤c9.ops;omega)
   have hG5:=hGE.setCell ⟨g,k * 5+2,none⟩ (.int .i64 (x.wear+1))
   have hk9:k<c9.blocks.length:=(List.getElem?_eq_some_iff.1 HX9.out).1
   have hb5:(c9.setB k { x with wear:=x.wear+1 }).blocks[k]?=some { x with wear:=x.wear+1 }:=by simp [CM.setB,hk9]
   obtain ⟨pv5,hB5⟩:=hc5.open_ hb5
   have f15:=(hB5.cells _ _ hH5).2.2.2.2.2.2.1
   obtain ⟨_,y1,_⟩:=hc5.heads hH5
   obtain ⟨H6,hc6,hH6⟩:=hB5.setN _ _ (c.P:Int) hH5 (by omega) (by show (c.P:Int)≤(c9.P:Int);omega)
   have hc6':ChipAt b g cap mv (c9.setB k { x with wear:=x.wear+1,next:=(c.P:Int) }) H6:=by
    have e:(c9.setB k { x with wear:=x.wear+1 }).setB k { x with wear:=x.wear+1,next:=(c.P:Int) }=c9.setB k { x with wear:=x.wear+1,next:=(c.P:Int) }:=by simp [CM.setB]
    rw [← e];exact hc6
   have hG6:=hG5.setCell ⟨g,k * 5+1,none⟩ (.int .i64 (c.P:Int))
   have hb6:(c9.setB k { x with wear:=x.wear+1,next:=(c.P:Int) }).blocks[k]?=some { x with wear:=x.wear+1,next:=(c.P:Int) }:=by simp [CM.setB,hk9]
   obtain ⟨pv6,hB6⟩:=hc6'.open_ hb6
   have f16:=(hB6.cells _ _ hH6).2.2.2.2.2.2.1
   obtain ⟨H7,hc7,hH7⟩:=hB6.setN _ _ 0 hH6 (Int.le_refl _) (by show (0:Int)≤(c9.P:Int);omega)
   have hc7':ChipAt b g cap mv (c9.setB k { x with wear:=x.wear+1,next:=0 }) H7:=by
    have e:(c9.setB k { x with wear:=x.wear+1,next:=(c.P:Int) }).setB k { x with wear:=x.wear+1,next:=0 }=c9.setB k { x with wear:=x.wear+1,next:=0 }:=by simp [CM.setB]
    rw [← e];exact hc7
   have hG7:=hG6.setCell ⟨g,k * 5+1,none⟩ (.int .i64 0)
   have hb7:(c9.setB k { x with wear:=x.wear+1,next:=0 }).blocks[k]?=some { x with wear:=x.wear+1,next:=0 }:=by simp [CM.setB,hk9]
   have HMF:=Lib.hid (fun (wx:World) (F:HL) (hx:Holds wx F) (hm:(t,Obj.cells #[.int .i64 ma,.int .i64 2,.int .i64 mb,.int .u8 (mf.toNat:Int)] 48)∈F)=>show wx.cell? ⟨t,3,none⟩=some (.int .u8 (mf.toNat:Int)) from hx.cell hm 3)
   have y3:=HMF.out _ _ hH6 (by simp)
   have hq1:x.wear+1≤1000000000000:=by omega
   have HY1:=Lib.hid y1
   have hy1:(w4.setCell ⟨g,k * 5+2,none⟩ (.int .i64 (x.wear+1))).cell? ⟨b,1,none⟩=some (.int .i64 (c.P:Int)):=by have:=HY1.out;simp only [CM.setB] at this;rw [hP9] at this;exact this
   clear hH4 hG3 hg4 d3 hB hc5 hH5 hG5 hB5 hb5 hc6 hB6 hc7 hHE hGE y1
   by_cases hff:mf=255
   ·have HFF:=Lib.hid hff
    have hfe:((mf.toNat:Int) == 255)=true:=by
     subst hff;rfl
    obtain ⟨pv8,hB8⟩:=hc7'.open_ hb7
    have d8:=(hB8.cells _ _ hH7).1
    obtain ⟨Hp,Hr,hbys,hop,hput⟩:=hB8.pages
    have hpl:x.pages.length=c.P:=by have h2:x.pages.length=c9.P:=hB8.ok.1;rw [h2,hP9]
    have hpz:∀ p∈x.pages,p.length=c.Z+28:=by have h2:∀ p∈x.pages,p.length=c9.Z+28:=hB8.ok.2.1;rw [hZ9] at h2;exact h2
    have hH8:=hop _ _ hH7
    obtain ⟨Ap,cp,rfl,hcp1,hcp2⟩:=hbys.val
    have hbys':IsBys (.slice Ap x.pages.length cp) x.pages Hp:=hbys
    obtain ⟨_,gp,rfl,_⟩:=hbys'.get2 (by omega)
    have hlenp:(x.pages.length:Int)=(c.P:Int):=by omega
    have HPUT:=Lib.hid hput
    have HPZ:=Lib.hid hpz
    have HPL:=Lib.hid hpl
    have HG8:=Lib.hid hG7
    have HH8:=Lib.hid hH8
    have HBYS:=Lib.hid hbys'
    have d8':=d8
    simp only [hpl] at d8'
    unfold maxLen at hcp2
    rw [hpl] at hcp1
    clear d8 hc7' hB8 hop hput hpz hpl hbys hbys' hH8 hH7 hG7 hb7 hc6' hH6 hG6 hb6 hff hlenp
    go_wp2_with fail
    go_loopw [10,81] (fun _ iv wr=>FillInv (.slice (some ⟨gp,0,none⟩) x.pages.length cp) x.pages (c.Z+28) mf w (Hr++(G4++(G++((t,.cells #[.int .i64 ma,.int .i64 2,.int .i64 mb,.int .u8 (mf.toNat:Int)] 48)::Fr)))) iv wr) (fun _ iv _=>x.pages.length - (intOf iv).toNat)
    case atStart=>exact ⟨0,Hp,[],by omega,rfl,by unfold fillTo;simpa using HBYS.out,by simpa using HH8.out,HG8.out⟩
    case round =>
     obtain ⟨j,Hq,F2,hj,rfl,hbq,hHr,hgr⟩:=hrel
     by_cases hlt:j<x.pages.length
     ·have hft:=fillTo_length (n:=c.Z+28) (u:=mf) hj
      have hfg:=fillTo_get (n:=c.Z+28) (u:=mf) hlt (by omega)
      obtain ⟨gp',cp',A,q,hv,hq,hcp,hPc,hZq,hcells,hcopy⟩:=hbq.copyAt (i:=j) (n:=c.Z+28) (by omega) (by rw [hfg];exact HPZ.out _ (List.getElem_mem hlt)) (by omega)
      injection hv with hv _ hvc
      injection hv with hv
      injection hv with hv
      subst hv hvc
      have x0:=hcells wr _ hHr
      have y3r:=HMF.out wr _ hHr (by simp)
      have HCOPY:=Lib.hid hcopy
      have HFG:=Lib.hid hfg
      have HFT:=Lib.hid hft
      have HHB:=Lib.hid (hHr.alloc (.cells #[.int .u8 (mf.toNat:Int)] 5))
      have hgB:=hgr.alloc (.cells #[.int .u8 (mf.toNat:Int)] 5)
      have HB1:=Lib.hid (show BytesAt (wr.alloc (.cells #[.int .u8 (mf.toNat:Int)] 5)) (.slice (some ⟨wr.heap.size,0,none⟩) 1 1) [mf] from ReadsAt.one' rfl)
      have hlt2:(j:Int)<(x.pages.length:Int):=by omega
      have hlt3:(j:Int)<(c.P:Int):=by rw [HPL.out] at hlt2;exact hlt2
      unfold maxLen at hq hcp
      have hZn:((c.Z+28:Nat):Int)=(c.Z:Int)+28:=by omega
      have HZN:=Lib.hid hZn;clear hZn
      clear hcells hcopy hfg hHr hbq
      go_wp2_with fail
      refine (repeat_any (.slice (some ⟨wr.heap.size,0,none⟩) 1 1) mf (c.Z+28) _ _ HB1.out HHB.out (by omega) (by omega)).mono ?_
      rintro e w3 ⟨v3,H3,rfl,hb3,hH3,hg3⟩
      have hb3':=IsRow.reads hb3 hH3
      obtain ⟨A3,q3,rfl⟩:=hb3.val
      simp only [List.length_replicate] at hb3' ⊢
      obtain ⟨w4',H4',hrun4,hb4,hH4',hg4'⟩:=HCOPY.out w3 (H3++((wr.heap.size,.cells #[.int .u8 (mf.toNat:Int)] 5)::(F2++(Hr++(G4++(G++((t,.cells #[.int .i64 ma,.int .i64 2,.int .i64 mb,.int .u8 (mf.toNat:Int)] 48)::Fr))))))) _ (c.Z+28) (List.replicate (c.Z+28) mf) (hH3.p) hb3' (Nat.le_refl _)
      have hb5:IsBys (.slice (some ⟨gp,0,none⟩) x.pages.length cp) (fillTo x.pages (j+1) (c.Z+28) mf) H4':=by
       have hdr:(x.pages[j]).drop (c.Z+28)=[]:=List.drop_eq_nil_of_le (by rw [HPZ.out _ (List.getElem_mem hlt)];exact Nat.le_refl _)
       rw [HFG.out,hdr,List.append_nil,fillTo_step hlt] at hb4
       exact hb4
      have HB5:=Lib.hid hb5
      have HH5:=Lib.hid hH4'
      have HG5:=Lib.hid ((hgB.trans hg3).trans hg4')
      clear hb4 hb5 hH4' hg4' hH3 hg3 hb3 hb3' hgB hgr
      go_wp2_with fail
      exact ⟨⟨j+1,H4',H3++((wr.heap.size,.cells #[.int .u8 (mf.toNat:Int)] 5)::F2),by omega,by go_num,HB5.out,by have:=HH5.out;simpa using this,HG5.out⟩,by simp [intOf];omega⟩
     ·obtain rfl:j=x.pages.length:=by omega
      rw [fillTo_all] at hbq
      obtain ⟨H9,hc9,hH9⟩:=HPUT.out wr (F2++(G4++(G++((t,.cells #[.int .i64 ma,.int .i64 2,.int .i64 mb,.int .u8 (mf.toNat:Int)] 48)::Fr)))) _ Hq hbq (by simp;rw [HPL.out,← hP9];rfl) (fun p hp=>by rw [List.eq_of_mem_replicate hp,List.length_replicate];rw [← hZ9];rfl) (hHr.p)
      have hc9':ChipAt b g cap mv (c9.setB k { x with pages:=List.replicate c.P (List.replicate (c.Z+28) mf),next:=0,wear:=x.wear+1 }) H9:=by
       have e:(c9.setB k { x with wear:=x.wear+1,next:=0 }).setB k { x with wear:=x.wear+1,next:=0,pages:=List.replicate x.pages.length (List.replicate (c.Z+28) mf) }=c9.setB k { x with pages:=List.replicate c.P (List.replicate (c.Z+28) mf),next:=0,wear:=x.wear+1 }:=by
        rw [HPL.out];simp [CM.setB]
       rw [← e];exact hc9
      have HDK:=Lib.hid (ndark_any hc9' hH9)
      have hnl:¬ ((x.pages.length:Int)<(c.P:Int)):=by have:=HPL.out;omega
      clear hc9 hc9' hH9 hbq hHr
      go_wp2_with fail
      refine HDK.out.mono ?_
      rintro e w9 ⟨ve9,H10,He9,rfl,he9,hc10,hH10,hg9⟩
      have HE9:=Lib.hid he9
      have HC9:=Lib.hid hc10
      clear he9 hc10
      go_wp2_with fail
      go_ret
      rw [HRD2.out,if_pos HFF.out]
      exact ⟨F2++(G4++(G++[(t,.cells #[.int .i64 ma,.int .i64 2,.int .i64 mb,.int .u8 (mf.toNat:Int)] 48)])),_,H10,He9,rfl,HE9.out,HC9.out,hH10.p,hgr.trans hg9⟩
   ·have HFF:=Lib.hid hff
    have hfe:((mf.toNat:Int) == 255)=false:=by
     simp;intro h;exact hff (UInt8.toNat.inj (by simpa using (show mf.toNat=255 by omega)))
    obtain ⟨pv8,hB8⟩:=hc6'.open_ hb6
    have d8:=(hB8.cells _ _ hH6).1
    obtain ⟨Hp,Hr,hbys,hop,hput⟩:=hB8.pages
    have hpl:x.pages.length=c.P:=by have h2:x.pages.length=c9.P:=hB8.ok.1;rw [h2,hP9]
    have hpz:∀ p∈x.pages,p.length=c.Z+28:=by have h2:∀ p∈x.pages,p.length=c9.Z+28:=hB8.ok.2.1;rw [hZ9] at h2;exact h2
    have hH8:=hop _ _ hH6
    obtain ⟨Ap,cp,rfl,hcp1,hcp2⟩:=hbys.val
    have hbys':IsBys (.slice Ap x.pages.length cp) x.pages Hp:=hbys
    obtain ⟨_,gp,rfl,_⟩:=hbys'.get2 (by omega)
    have hlenp:(x.pages.length:Int)=(c.P:Int):=by omega
    have HPUT:=Lib.hid hput
    have HPZ:=Lib.hid hpz
    have HPL:=Lib.hid hpl
    have HG8:=Lib.hid hG6
    have HH8:=Lib.hid hH8
    have HBYS:=Lib.hid hbys'
    have d8':=d8
    simp only [hpl] at d8'
    unfold maxLen at hcp2
    rw [hpl] at hcp1
    clear d8 hc6' hB8 hop hput hpz hpl hbys hbys' hH8 hH6 hG6 hb6 hc7' hH7 hG7 hb7 hff hlenp
    go_wp2_with fail
    go_loopw [10,81] (fun _ iv wr=>FillInv (.slice (some ⟨gp,0,none⟩) x.pages.length cp) x.pages (c.Z+28) mf w (Hr++(G4++(G++((t,.cells #[.int .i64 ma,.int .i64 2,.int .i64 mb,.int .u8 (mf.toNat:Int)] 48)::Fr)))) iv wr) (fun _ iv _=>x.pages.length - (intOf iv).toNat)
    case atStart=>exact ⟨0,Hp,[],by omega,rfl,by unfold fillTo;simpa using HBYS.out,by simpa using HH8.out,HG8.out⟩
    case round =>
     obtain ⟨j,Hq,F2,hj,rfl,hbq,hHr,hgr⟩:=hrel
     by_cases hlt:j<x.pages.length
     ·have hft:=fillTo_length (n:=c.Z+28) (u:=mf) hj
      have hfg:=fillTo_get (n:=c.Z+28) (u:=mf) hlt (by omega)
      obtain ⟨gp',cp',A,q,hv,hq,hcp,hPc,hZq,hcells,hcopy⟩:=hbq.copyAt (i:=j) (n:=c.Z+28) (by omega) (by rw [hfg];exact HPZ.out _ (List.getElem_mem hlt)) (by omega)
      injection hv with hv _ hvc
      injection hv with hv
      injection hv with hv
      subst hv hvc
      have x0:=hcells wr _ hHr
      have y3r:=HMF.out wr _ hHr (by simp)
      have HCOPY:=Lib.hid hcopy
      have HFG:=Lib.hid hfg
      have HFT:=Lib.hid hft
      have HHB:=Lib.hid (hHr.alloc (.cells #[.int .u8 (mf.toNat:Int)] 5))
      have hgB:=hgr.alloc (.cells #[.int .u8 (mf.toNat:Int)] 5)
      have HB1:=Lib.hid (show BytesAt (wr.alloc (.cells #[.int .u8 (mf.toNat:Int)] 5)) (.slice (some ⟨wr.heap.size,0,none⟩) 1 1) [mf] from ReadsAt.one' rfl)
      have hlt2:(j:Int)<(x.pages.length:Int):=by omega
      have hlt3:(j:Int)<(c.P:Int):=by rw [HPL.out] at hlt2;exact hlt2
      unfold maxLen at hq hcp
      have hZn:((c.Z+28:Nat):Int)=(c.Z:Int)+28:=by omega
      have HZN:=Lib.hid hZn;clear hZn
      clear hcells hcopy hfg hHr hbq
      go_wp2_with fail
      refine (repeat_any (.slice (some ⟨wr.heap.size,0,none⟩) 1 1) mf (c.Z+28) _ _ HB1.out HHB.out (by omega) (by omega)).mono ?_
      rintro e w3 ⟨v3,H3,rfl,hb3,hH3,hg3⟩
      have hb3':=IsRow.reads hb3 hH3
      obtain ⟨A3,q3,rfl⟩:=hb3.val
      simp only [List.length_replicate] at hb3' ⊢
      obtain ⟨w4',H4',hrun4,hb4,hH4',hg4'⟩:=HCOPY.out w3 (H3++((wr.heap.size,.cells #[.int .u8 (mf.toNat:Int)] 5)::(F2++(Hr++(G4++(G++((t,.cells #[.int .i64 ma,.int .i64 2,.int .i64 mb,.int .u8 (mf.toNat:Int)] 48)::Fr))))))) _ (c.Z+28) (List.replicate (c.Z+28) mf) (hH3.p) hb3' (Nat.le_refl _)
      have hb5:IsBys (.slice (some ⟨gp,0,none⟩) x.pages.length cp) (fillTo x.pages (j+1) (c.Z+28) mf) H4':=by
       have hdr:(x.pages[j]).drop (c.Z+28)=[]:=List.drop_eq_nil_of_le (by rw [HPZ.out _ (List.getElem_mem hlt)];exact Nat.le_refl _)
       rw [HFG.out,hdr,List.append_nil,fillTo_step hlt] at hb4
       exact hb4
      have HB5:=Lib.hid hb5
      have HH5:=Lib.hid hH4'
      have HG5:=Lib.hid ((hgB.trans hg3).trans hg4')
      clear hb4 hb5 hH4' hg4' hH3 hg3 hb3 hb3' hgB hgr
      go_wp2_with fail
      exact ⟨⟨j+1,H4',H3++((wr.heap.size,.cells #[.int .u8 (mf.toNat:Int)] 5)::F2),by omega,by go_num,HB5.out,by have:=HH5.out;simpa using this,HG5.out⟩,by simp [intOf];omega⟩
     ·obtain rfl:j=x.pages.length:=by omega
      rw [fillTo_all] at hbq
      obtain ⟨H9,hc9,hH9⟩:=HPUT.out wr (F2++(G4++(G++((t,.cells #[.int .i64 ma,.int .i64 2,.int .i64 mb,.int .u8 (mf.toNat:Int)] 48)::Fr)))) _ Hq hbq (by simp;rw [HPL.out,← hP9];rfl) (fun p hp=>by rw [List.eq_of_mem_replicate hp,List.length_replicate];rw [← hZ9];rfl) (hHr.p)
      have hc9':ChipAt b g cap mv (c9.setB k { x with pages:=List.replicate c.P (List.replicate (c.Z+28) mf),next:=(c.P:Int),wear:=x.wear+1 }) H9:=by
       have e:(c9.setB k { x with wear:=x.wear+1,next:=(c.P:Int) }).setB k { x with wear:=x.wear+1,next:=(c.P:Int),pages:=List.replicate x.pages.length (List.replicate (c.Z+28) mf) }=c9.setB k { x with pages:=List.replicate c.P (List.replicate (c.Z+28) mf),next:=(c.P:Int),wear:=x.wear+1 }:=by
        rw [HPL.out];simp [CM.setB]
       rw [← e];exact hc9
      have HDK:=Lib.hid (ndark_any hc9' hH9)
      have hnl:¬ ((x.pages.length:Int)<(c.P:Int)):=by have:=HPL.out;omega
      clear hc9 hc9' hH9 hbq hHr
      go_wp2_with fail
      refine HDK.out.mono ?_
      rintro e w9 ⟨ve9,H10,He9,rfl,he9,hc10,hH10,hg9⟩
      have HE9:=Lib.hid he9
      have HC9:=Lib.hid hc10
      clear he9 hc10
      go_wp2_with fail
      go_ret
      rw [HRD2.out,if_neg HFF.out]
      exact ⟨F2++(G4++(G++[(t,.cells #[.int .i64 ma,.int .i64 2,.int .i64 mb,.int .u8 (mf.toNat:Int)] 48)])),_,H10,He9,rfl,HE9.out,HC9.out,hH10.p,hgr.trans hg9⟩
  ·have HMK:=Lib.hid hmk
   go_upto_region 5 with fail
   generalize w1.alloc (.cells #[.int .i64 ma,.int .i64 2,.int .i64 mb,.int .u8 (mf.toNat:Int)] 48)=wA at *
   generalize w1.heap.size=t at *
   have HS:=Lib.hid (fun (wx:World) (cx:CM) (Hx F:HL) (hcx:ChipAt b g cap mv cx Hx) (hbx:cx.blocks[k]?=some x) (hx:Holds wx (Hx++F)) (hm:(t,Obj.cells #[.int .i64 ma,.int .i64 2,.int .i64 mb,.int .u8 (mf.toNat:Int)] 48)∈F) =>
    show wx.cell? ⟨t,0,none⟩=some (.int .i64 ma)∧wx.cell? ⟨t,1,none⟩=some (.int .i64 2)∧wx.cell? ⟨t,2,none⟩=some (.int .i64 mb)∧wx.cell? ⟨t,3,none⟩=some (.int .u8 (mf.toNat:Int))∧wx.cell? ⟨g,k * 5+4,none⟩=some (.bool true) from by
     obtain ⟨pv,hB⟩:=hcx.open_ hbx
     obtain ⟨_,d1,_,_,d4,_⟩:=hB.cells wx F hx
     rw [hmk] at d4
     exact ⟨hx.cell (List.mem_append_right _ hm) 0,hx.cell (List.mem_append_right _ hm) 1,hx.cell (List.mem_append_right _ hm) 2,hx.cell (List.mem_append_right _ hm) 3,d4⟩)
   clear hmk z0 z1 z2 z3
   refine Z_begin (fun wx=>wx.cell? ⟨t,0,none⟩=some (.int .i64 ma)∧wx.cell? ⟨t,1,none⟩=some (.int .i64 2)∧wx.cell? ⟨t,2,none⟩=some (.int .i64 mb)∧wx.cell? ⟨t,3,none⟩=some (.int .u8 (mf.toNat:Int))∧wx.cell? ⟨g,k * 5+4,none⟩=some (.bool true)) 9 (by kernel_rfl) (fun w1 hd=>HS.out _ c9 H1 _ HC1.out HX9.out (hHB.dr hd) (by simp)) (fun w1 hd hs=>?_)
   have hH3:=hHB.dr hd;have hG3:=hGA.trans (Grew.dr hd);clear hd hHB hGA
   refine Zt 0 28 ?_ rfl hs ?_ ?_
   rotate_left
   ·rintro wx ⟨x0,x1,x2,x3,x4⟩;go_simp;try with_reducible rfl
   simp only [pt,sA,sS,sZ]
   refine Zt 1 29 ?_ rfl hs ?_ ?_
   rotate_left
   ·rintro wx ⟨x0,x1,x2,x3,x4⟩;go_simp;try with_reducible rfl
   simp only [pt,sA,sS,sZ]
   refine Zt 2 30 ?_ rfl hs ?_ ?_
   rotate_left
   ·rintro wx ⟨x0,x1,x2,x3,x4⟩;go_simp;try with_reducible rfl
   simp only [pt,sA,sS,sZ]
   refine Zt 3 31 ?_ rfl hs ?_ ?_
   rotate_left
   ·rintro wx ⟨x0,x1,x2,x3,x4⟩;go_simp;try with_reducible rfl
   simp only [pt,sA,sS,sZ]
   refine Zt 4 32 ?_ rfl hs ?_ ?_
   rotate_left
   ·rintro wx ⟨x0,x1,x2,x3,x4⟩;go_simp;try with_reducible rfl
   simp only [pt,sA,sS,sZ]
   refine Zt 5 33 ?_ rfl hs ?_ ?_
   rotate_left
   ·rintro wx ⟨x0,x1,x2,x3,x4⟩;go_simp;try with_reducible rfl
   simp only [pt,sA,sS,sZ]
   refine Zt 6 34 ?_ rfl hs ?_ ?_
   rotate_left
   ·rintro wx ⟨x0,x1,x2,x3,x4⟩;go_simp;try with_reducible rfl
   simp only [pt,sA,sS,sZ]
   refine Z_mid 7 rfl (by kernel_rfl) (fun K hK=>?_)
   have ⟨x0,x1,x2,x3,x4⟩:=hs
   go_simp;refine (nordered_any ma 2 mb mf false HC1.out hH3 (by rw [hO9];omega) (fun _=>by rw [hO9,hM9];omega)).mono ?_;rintro e w4 ⟨G4,ve4,H4,He4,rfl,he4,hc4,hH4,hg4⟩;rw [HOF.out] at he4 hc4
   clear x0 x1 x2 x3 x4
   refine hK _ _ (HS.out _ _ H4 _ hc4 (by exact HX9.out) hH4 (by simp)) (fun hs2=>?_);clear hK K hs;have hs:=hs2;clear hs2
   refine Zt 8 8 ?_ rfl hs ?_ ?_
   rotate_left
   ·rintro wx ⟨x0,x1,x2,x3,x4⟩;go_simp;try with_reducible rfl
   simp only [pt,sA,sS,sZ]
   refine Z_done (by kernel_rfl) ?_ _
   obtain ⟨b9,s9,rfl,_⟩:=isErrP8 he4 (show (4:Int)≠0 by decide)
   have HE4:=Lib.hid he4
   have HC4:=Lib.hid hc4
   have HRD2:=Lib.hid (show c.erase k x=({ c9 with misuse:=c9.misuse+1,on:=false },4) by rw [HRD0.out,if_pos HMK.out];exact HOF.out)
   clear he4 hc4 HRD0
   go_wp2_with fail
   go_ret
   rw [HRD2.out]
   exact ⟨G4++(G++[(t,.cells #[.int .i64 ma,.int .i64 2,.int .i64 mb,.int .u8 (mf.toNat:Int)] 48)]),_,H4,He4,rfl,HE4.out,HC4.out,hH4.p,hG3.trans hg4⟩
 ·obtain ⟨b9,s9,rfl,_⟩:=isErrP8 he he0
  have HRD2:=Lib.hid (show c.erase k x=(c9,ec) by rw [HRD.out,if_pos he0])
  have HE:=Lib.hid he
  clear he HRD he0 hH1
  go_wp2_with fail
  go_ret
  rw [HRD2.out]
  exact ⟨G++[(w1.heap.size,.cells #[.int .i64 ma,.int .i64 mk,.int .i64 mb,.int .u8 (mf.toNat:Int)] 48)],_,H1,He,rfl,HE.out,HC1.out,HHA.out.p,hGA⟩
end
end Go.Proofs.YtoelopghilbfeaaGreat
