/-
  Package store: Put.
-/
import Derived.Test.YtoelopghilbfeaaGreatSt11
import Derived.Test.YtoelopghilbfeaaGreatHdA
namespace Go.Proofs.YtoelopghilbfeaaGreat
open Go.RowKit
set_option linter.unusedSimpArgs false
set_option linter.unusedVariables false
variable {b cb g cap:Nat} {mv:Value} {c:CM} {s:SM} {H Hc Fr:HL} {w:World}
def opsW (cb:Nat) (w:World):Int:=match w.cell? ⟨cb,6,none⟩ with | some (.int _ n)=>n | _=>0
theorem opsW_eq (hch:ChipAt cb g cap mv c Hc) (hH:Holds w (Hc++Fr)):opsW cb w=c.ops:=by
 obtain ⟨c0,c1,c2,c3,c4,c5,c6,c7,c8,_⟩:=hch.heads hH
 unfold opsW
 rw [c6]
def RetSP (b cb g cap:Nat) (mv:Value) (r:SM × CM × Int × Int) (w:World) (Fr:HL) (e:Ending) (w':World):Prop :=
 ∃ ve He H' Hc',e=.returned (.tuple #[.int .i64 r.2.2.1,ve])∧IsErr ve r.2.2.2 He∧StAt b cb r.1 H'∧ChipAt cb g cap mv r.2.1 Hc'∧Holds w' (H'++(Hc'++(He++Fr)))∧Grew w w'
def PtTo (b cb g cap:Nat) (mv:Value) (h:Hd) (raw:List UInt8) (res:SM × CM × Int × Int) (N0:Nat) (s0:SM) (c0:CM) (w:World) (F:HL) (wr:World):Prop :=
 ∃ (m:Nat) (s':SM) (c':CM) (H' Hc':HL),c'.cnt<m∧m≤N0∧putL h raw m s' c'=res∧c0.Sim c' (50 * ((N0:Int) - m))∧s0.Geo s'∧StAt b cb s' H'∧ChipAt cb g cap mv c' Hc'∧Holds wr (H'++(Hc'++F))∧Grew w wr
set_option maxRecDepth 20000 in
set_option maxHeartbeats 8000000 in
theorem put_any (hd:Hd) (d:List UInt8) (dv:Value) (h:StAt b cb s H) (hch:ChipAt cb g cap mv c Hc) (hH:Holds w (H++(Hc++Fr))) (hy:Yok s.P s.y) (hB:s.B<20) (hops:c.ops≤999999990000) (hBc:c.blocks.length=s.B) (hZ:c.Z=s.Z)
  (hdv:FrBytes (H++(Hc++Fr)) dv d) (hin:HdIn hd) :
  Calls Tryz.prog 15 #[.pointer (some ⟨b,0,none⟩),hd.agg,dv] w (RetSP b cb g cap mv (putA s c hd d) w Fr):=by
 have HST:=Lib.hid h
 have HCH:=Lib.hid hch
 have HYO:=Lib.hid hy
 have HPB:=Lib.hid (plan_bd h.plan)
 have HRES:=Lib.hid (show putA s c hd d=if (sizedB d.length && hd.may)=false∨d.length≠s.Z then (s,c,0,2) else if c.on=false then (s,c,0,4) else putI s c hd d from rfl)
 generalize putA s c hd d=res at *
 obtain ⟨A,cp,rfl⟩:=(hdv w hH).val
 have HDB:=Lib.hid hdv
 have hdl:=ReadsAt.le (hdv w hH)
 unfold maxLen at hdl
 have HY1:=Lib.hid (fun (hs:sizedB d.length=true) (hm:hd.may=true) (wx:World) (F:HL) (hx:Holds wx ((H++(Hc++Fr))++F))=>lay_yes _ d hd wx _ (fun wy hy=>hdv wy hy.left) hx hs hm hin)
 have HY0:=Lib.hid (fun (hn:(sizedB d.length && hd.may)=false) (wx:World) (F:HL) (hx:Holds wx ((H++(Hc++Fr))++F))=>lay_no _ d hd wx _ (hdv wx hx.left) hx hn)
 obtain ⟨yb,mb,hcl⟩:=h.cells
 have HCL:=Lib.hid hcl
 have HON:=Lib.hid (fun (wx:World) (F:HL) (hx:Holds wx (Hc++F))=>non_any hch hx)
 have HKP:=Lib.hid (fun (s':SM) (H':HL) (k p:Int) (hs:StAt b cb s' H') (wx:World) (F:HL) (hX:Holds wx (H'++F)) (h1:0≤k) (h2:k<s'.B) (h3:0≤p) (h4:p<s'.P)=>keep_any k p hd hs hX h1 h2 h3 h4)
 obtain ⟨hdk,hda,hds,hdg⟩:=hd
 simp only [Hd.agg,Hd.cells] at HY1 HY0 HKP ⊢
 have hH1:=hH.alloc (.cells #[.int .i64 hdk,.int .u64 hda,.int .i64 hds,.int .i64 hdg] 37)
 have hg1:=(Grew.refl w).alloc (.cells #[.int .i64 hdk,.int .u64 hda,.int .i64 hds,.int .i64 hdg] 37)
 have hH2:Holds (w.alloc (.cells #[.int .i64 hdk,.int .u64 hda,.int .i64 hds,.int .i64 hdg] 37)) ((H++(Hc++Fr))++[(w.heap.size,.cells #[.int .i64 hdk,.int .u64 hda,.int .i64 hds,.int .i64 hdg] 37)]):=hH1.p
 have k1:=err_ne
 have k2:=nil_ne
 have HO:=Lib.hid hops
 have HBC:=Lib.hid (And.intro hBc hZ)
 have HBB:=Lib.hid hB
 clear h hch hH hy hB hops hBc hZ hdv hin hcl hH1
 go_enter Tryz.func15,Tryz.ntmps15
 go_upto_region 3 with fail
 generalize w.alloc (.cells #[.int .i64 hdk,.int .u64 hda,.int .i64 hds,.int .i64 hdg] 37)=w0 at *
 generalize w.heap.size=gh at *
 have HSW:=Lib.hid (fun (wx:World) (X F:HL) (hX:Holds wx (X++((gh,.cells #[.int .i64 hdk,.int .u64 hda,.int .i64 hds,.int .i64 hdg] 37)::F)))=>show wx.cell? ⟨gh,0,none⟩=some (.int .i64 hdk)∧wx.cell? ⟨gh,1,none⟩=some (.int .u64 hda)∧wx.cell? ⟨gh,2,none⟩=some (.int .i64 hds)∧wx.cell? ⟨gh,3,none⟩=some (.int .i64 hdg) from ⟨hX.right.hcell 0,hX.right.hcell 1,hX.right.hcell 2,hX.right.hcell 3⟩)
 obtain ⟨s0,s1,s2,s3⟩:=HSW.out w0 _ _ hH2
 by_cases hlay:(sizedB d.length && Hd.may ⟨hdk,hda,hds,hdg⟩)=false
 ·have HR2:=Lib.hid (show res=(s,c,0,2) by rw [HRES.out,if_pos (.inl hlay)])
  have HL:=Lib.hid (HY0.out hlay w0 _ hH2)
  clear hlay HY1 HY0
  go_upto_region 4 with fail
  refine HL.out.mono ?_
  rintro e w1 ⟨ve,He,rfl,he,hH3,hg3⟩
  obtain ⟨be,se,rfl,rfl⟩:=isErrP8 he (by omega)
  have HW:=Lib.hid (swrong_any 2 w1 _ (by omega) hH3)
  clear he hH2 hH3 s0 s1 s2 s3 HL
  go_wp2_with fail
  refine HW.out.mono ?_
  rintro e w2 ⟨ve2,He2,rfl,he2,hH4,hg4⟩
  have HE2:=Lib.hid he2
  have HH4:=Lib.hid hH4
  clear he2 hH4 HW
  go_wp2_with fail
  go_ret2
  rw [HR2.out]
  exact ⟨_,He2,H,Hc,rfl,HE2.out,HST.out,HCH.out,HH4.out.p,(hg1.trans hg3).trans hg4⟩
 ·have hlt:sizedB d.length=true∧Hd.may ⟨hdk,hda,hds,hdg⟩=true:=by simpa using hlay
  have HLAY:=Lib.hid hlay
  have HL:=Lib.hid (HY1.out hlt.1 hlt.2 w0 _ hH2)
  clear hlay hlt HY1 HY0
  go_upto_region 4 with fail
  refine HL.out.mono ?_
  rintro e w1 ⟨rv,Hr,rfl,hr,hH3,hg3⟩
  have HRW:=Lib.hid hr
  have hG3:=hg1.trans hg3
  have hH4:Holds w1 (H++(Hc++(Hr++((gh,.cells #[.int .i64 hdk,.int .u64 hda,.int .i64 hds,.int .i64 hdg] 37)::Fr)))):=hH3.p
  clear hH2 hH3 hr hg1 hg3 HL s0 s1 s2 s3
  obtain ⟨x0,x1,x2,x3,x4,x5,x6⟩:=HCL.out w1 _ hH4
  by_cases hz:d.length=s.Z
  ·have e1:((d.length:Int) != (s.Z:Int))=false:=by rw [hz];simp
   have HZE:=Lib.hid hz
   clear hz
   have HON1:=Lib.hid (HON.out w1 _ (hH4.right))
   by_cases hon:c.on=true
   ·have HR2:=Lib.hid (show res=putI s c ⟨hdk,hda,hds,hdg⟩ d by rw [HRES.out,if_neg (by rintro (h | h);exact HLAY.out h;exact h HZE.out),if_neg (by rw [hon];simp)])
    rw [hon] at HON1
    clear hon
    go_upto_region 6 with fail
    go_upto_region 8 with fail
    refine HON1.out.mono ?_
    rintro e w2 ⟨rfl,rfl⟩
    clear x0 x1 x2 x3 x4 x5 x6 e1 HON1
    have HN0:=Lib.hid (show c.cnt+1≤20 by have:=cnt_le c;have:=HBC.out.1;have:=HBB.out;omega)
    have HPI:=Lib.hid (show putL ⟨hdk,hda,hds,hdg⟩ (layL d ⟨hdk,hda,hds,hdg⟩) (c.cnt+1) s c=res by rw [HR2.out];rfl)
    obtain ⟨N0,hN0⟩:∃ N0,N0=c.cnt+1:=⟨_,rfl⟩
    rw [← hN0] at HN0 HPI
    have HNE:=Lib.hid hN0
    clear hN0
    go_wp2_with fail
    go_loopw [] (fun wr=>PtTo b cb g cap mv ⟨hdk,hda,hds,hdg⟩ (layL d ⟨hdk,hda,hds,hdg⟩) res N0 s c w (Hr++((gh,.cells #[.int .i64 hdk,.int .u64 hda,.int .i64 hds,.int .i64 hdg] 37)::Fr)) wr) (fun wr=>(1000000000000 - opsW cb wr).toNat)
    case atStart=>exact ⟨N0,s,c,H,Hc,by rw [HNE.out];omega,Nat.le_refl _,HPI.out,(CM.Sim.refl c).mono (by omega),SM.Geo.refl s,HST.out,HCH.out,hH4,hG3⟩
    case round =>
     clear hH4 hG3
     obtain ⟨m,s',c',H',Hc',hm1,hm2,hres,hsim,hgeo,hst,hch,hHr,hgr⟩:=hrel
     obtain ⟨m,rfl⟩:∃ m',m=m'+1:=⟨m - 1,by omega⟩
     rw [putL] at hres
     have HSX':=Lib.hid hst
     have HCX':=Lib.hid hch
     have HLF:=Lib.hid (left_any hst hch hHr)
     have HGX':=Lib.hid hgeo
     have HSM':=Lib.hid hsim
     have HTG:=Lib.hid (takeT_geo s' c')
     have HOR:=Lib.hid (show -1≤s'.op by obtain ⟨_,_,_,_,_,_,_,_,_,_,h,_⟩:=hst;exact h.1)
     have HOW':=Lib.hid (show opsW cb wr=c'.ops from opsW_eq hch (hHr.right))
     have HHR:=Lib.hid hHr
     have HRES3:=Lib.hid hres
     clear hres hsim hgeo hst hch hHr
     go_upto_region 9 with fail
     refine HLF.out.mono ?_
     rintro e w2 ⟨rfl,q,rfl⟩
     by_cases hl:leftI s' c'=0
     ·have HTK:=Lib.hid (take_any HSX'.out HCX'.out (HHR.out.drewN q) (by rw [HGX'.out.1];exact HBB.out) (by have:=HSM'.out.2.2.2.2.2;have:=HO.out;have:=HN0.out;omega) (by rw [HSM'.out.2.2.1,HGX'.out.1];exact HBC.out.1))
      rw [show takeT s' c'=takeS s' c' by unfold takeT;exact if_pos hl] at HTG HRES3
      have hgq:=hgr.drewN q
      rw [hl]
      clear hl hgr HLF
      generalize takeS s' c'=tk at *
      obtain ⟨s4,c4,code4⟩:=tk
      dsimp only at *
      go_upto_region 10 with fail
      refine HTK.out.mono ?_
      rintro e w4 ⟨ve4,He4,H4,Hc4,rfl,he4,hs4,hch4,hH4,hg4⟩
      have HE4:=Lib.hid he4
      have HSX:=Lib.hid hs4
      have HCX:=Lib.hid hch4
      have hGX:=hgq.trans hg4
      have HH4:=Lib.hid hH4
      clear hs4 hch4 hH4 hg4 hgq HTK
      by_cases hc4:code4=0
      ·subst hc4
       obtain ⟨rfl,rfl⟩:=isErr0 he4
       clear he4
       rw [if_neg (by simp)] at HRES3
       have HTX:=HRES3
       have HGX:=Lib.hid (HGX'.out.trans HTG.out.1)
       have HSM:=Lib.hid ((HSM'.out.trans HTG.out.2.1).mono (m:=50 * ((N0:Int) - (m+1))+40) (by have:=HGX'.out.1;have:=HBB.out;omega))
       have HCN:=Lib.hid (show c4.cnt<m+1 by have:=HTG.out.2.2.1;omega)
       have HOX:=Lib.hid (HTG.out.2.2.2 rfl HOR.out)
       have HOWX:=Lib.hid (show opsW cb wr≤c4.ops by rw [HOW'.out];exact HTG.out.2.1.2.2.2.2.1)
       have hHX:Holds w4 (H4++(Hc4++(Hr++((gh,.cells #[.int .i64 hdk,.int .u64 hda,.int .i64 hds,.int .i64 hdg] 37)::Fr)))):=HH4.out.p
       go_upto_region 12 with fail
       obtain ⟨yb5,mb5,hcells5,hnext5⟩:=HSX.out.next
       obtain ⟨x0,x1,x2,x3,x4,x5,x6⟩:=hcells5 w4 _ hHX
       have HNY:=Lib.hid (hnext5 s4.op w4 _ hHX)
       have HPG:=Lib.hid ((HGX.out.2.2.2 HYO.out).nextP (by have:=HPB.out;omega) s4.op)
       have HOB:=Lib.hid (show s4.op<s4.B by obtain ⟨_,_,_,_,_,_,_,_,_,_,h,_⟩:=HSX.out;exact h.2)
       have HTH:=Lib.hid (show c4.there s4.op=true by unfold CM.there;rw [HSM.out.2.2.1,HBC.out.1,← HGX.out.1];exact decide_eq_true ⟨HOX.out,HOB.out⟩)
       have HRL:=Lib.hid (show (layL d ⟨hdk,hda,hds,hdg⟩).length=c4.Z+28 by rw [layL_len,HZE.out,HSM.out.2.1,HBC.out.2])
       clear hcells5 hnext5 hHX
       obtain ⟨op,hop⟩:∃ op,op=s4.op:=⟨_,rfl⟩
       rw [← hop] at HNY HPG HOB HTH HTX HOX x6
       have HOE:=Lib.hid hop
       clear hop
       obtain ⟨pg,hpg⟩:∃ pg,pg=(Ynext s4.y op).2.1:=⟨_,rfl⟩
       rw [← hpg] at HNY HPG HTX
       clear hpg
       go_upto_region 14 with fail
       refine HNY.out.mono ?_
       rintro e w5 ⟨ve5,He5,H5,rfl,he5,hs5,hH5,hg5⟩
       have HS5:=Lib.hid hs5
       have hH6:Holds w5 (H5++(Hc4++(Hr++((gh,.cells #[.int .i64 hdk,.int .u64 hda,.int .i64 hds,.int .i64 hdg] 37)::Fr)))):=hH5.p
       have hG5:=hGX.trans hg5
       clear he5 hs5 hH5 hg5 hGX HNY x0 x1 x2 x3 x4 x5 x6
       obtain ⟨yb6,mb6,hcells6,_⟩:=HS5.out.yards
       obtain ⟨x0,x1,x2,x3,x4,x5,x6⟩:=hcells6 w5 _ hH6
       have HPR:=Lib.hid (progI_any op pg HCX.out (hH6.swap) (by have:=HSM.out.2.2.2.2.2;have:=HO.out;have:=HN0.out;omega) HTH.out (fun wx hx=>HRW.out.at_ (hx.p:Holds wx (Hr++(H5++((gh,.cells #[.int .i64 hdk,.int .u64 hda,.int .i64 hds,.int .i64 hdg] 37)::Fr))))) HRL.out)
       have HSIM6:=Lib.hid (progI_sim c4 op pg (layL d ⟨hdk,hda,hds,hdg⟩))
       have HCN6:=Lib.hid (progI_cnt c4 op pg (layL d ⟨hdk,hda,hds,hdg⟩))
       have HOP6:=Lib.hid (fun h=>progI_ops (c:=c4) (k:=op) (p:=pg) (raw:=layL d ⟨hdk,hda,hds,hdg⟩) h)
       clear hcells6 hH6
       generalize progI c4 op pg (layL d ⟨hdk,hda,hds,hdg⟩)=pr at *
       obtain ⟨c6,code6⟩:=pr
       dsimp only at *
       go_upto_region 15 with fail
       refine HPR.out.mono ?_
       rintro e w6 ⟨G6,ve6,Hc6,He6,rfl,he6,hch6,hH7,hg7⟩
       dsimp only at he6 hch6
       have HCH6:=Lib.hid hch6
       have HE6:=Lib.hid he6
       have hG6:=hG5.trans hg7
       have hH8:Holds w6 (He6++(H5++(Hc6++(Hr++((gh,.cells #[.int .i64 hdk,.int .u64 hda,.int .i64 hds,.int .i64 hdg] 37)::Fr))))):=hH7.p
       have HCD:=Lib.hid (code_any ve6 code6 He6 _ w6 he6 hH8)
       have HH8:=Lib.hid hH8
       clear he6 hch6 hH7 hg7 hG5 hH8 HPR x0 x1 x2 x3 x4 x5 x6
       by_cases h0:code6=0
       ·subst h0
        have HR5:=Lib.hid (show res=(keepS (nextY s4 s4.op) s4.op pg ⟨hdk,hda,hds,hdg⟩,c6,s4.op * s4.P+pg,0) by rw [← HTX.out];unfold putM;exact if_pos rfl)
        obtain ⟨s0,s1,s2,s3⟩:=HSW.out w6 (He6++(H5++(Hc6++Hr))) Fr (by simpa using HH8.out)
        have HKQ:=Lib.hid (HKP.out (nextY s4 op) H5 op pg HS5.out w6 (Hc6++Fr) (HH8.out.p) HOX.out HOB.out HPG.out.1 (by show pg<(s4.P:Int);rw [HGX.out.2.1];exact HPG.out.2))
        go_upto_region 17 with fail
        refine HCD.out.mono ?_
        rintro e w7 ⟨rfl,rfl⟩
        go_upto_region 18 with fail
        go_upto_region 19 with fail
        refine HKQ.out.mono ?_
        rintro e w7 ⟨rfl,H7,hs7,hH9,hg9⟩
        have HS7:=Lib.hid hs7
        have HH9:=Lib.hid hH9
        have hG9:=hG6.trans hg9
        clear hs7 hH9 hg9 hG6 s0 s1 s2 s3 HKQ HCD
        go_wp2_with fail
        go_ret2
        rw [HR5.out,← HOE.out]
        exact ⟨_,[],H7,Hc6,rfl,IsErr.none,HS7.out,HCH6.out,HH9.out.p,hG9⟩
       ·have e0:(code6 == 0)=false:=by simpa using h0
        by_cases h5:code6=5
        ·subst h5
         have HTH6:=Lib.hid (show c6.there op=true by have:=HTH.out;unfold CM.there at this ⊢;rw [HSIM6.out.2.2.1];exact this)
         have HGV:=Lib.hid (giveI_any op HS5.out HCH6.out (HH8.out.right) (by have:=HSIM6.out.2.2.2.2.2;have:=HSM.out.2.2.2.2.2;have:=HO.out;have:=HN0.out;omega) HTH6.out)
         have HSIM7:=Lib.hid (giveI_sim (nextY s4 op) c6 op)
         have HCN7:=Lib.hid (giveI_cnt (nextY s4 op) c6 op)
         have HGE7:=Lib.hid (giveI_geo (nextY s4 op) c6 op)
         have HR5:=Lib.hid (show res=if (giveI (nextY s4 s4.op) c6 s4.op).2.2≠0 then ((giveI (nextY s4 s4.op) c6 s4.op).1,(giveI (nextY s4 s4.op) c6 s4.op).2.1,0,(giveI (nextY s4 s4.op) c6 s4.op).2.2) else putL ⟨hdk,hda,hds,hdg⟩ (layL d ⟨hdk,hda,hds,hdg⟩) m (giveI (nextY s4 s4.op) c6 s4.op).1 (giveI (nextY s4 s4.op) c6 s4.op).2.1 by rw [← HTX.out];unfold putM;rw [if_neg (by simp),if_pos rfl])
         rw [← HOE.out] at HR5
         generalize giveI (nextY s4 op) c6 op=gv at *
         obtain ⟨s8,c8,code8⟩:=gv
         dsimp only at *
         go_upto_region 17 with fail
         refine HCD.out.mono ?_
         rintro e w7 ⟨rfl,rfl⟩
         go_upto_region 18 with fail
         go_upto_region 21 with fail
         refine HGV.out.mono ?_
         rintro e w8 ⟨ve8,He8,H8,Hc8,rfl,he8,hs8,hch8,hH9,hg8⟩
         have HE8:=Lib.hid he8
         have HS8:=Lib.hid hs8
         have HCH8:=Lib.hid hch8
         have HH9:=Lib.hid hH9
         have hG8:=hG6.trans hg8
         clear hs8 hch8 hH9 hg8 hG6 HGV HCD
         by_cases hc8:code8=0
         ·subst hc8
          obtain ⟨rfl,rfl⟩:=isErr0 he8
          clear he8
          rw [if_neg (by simp)] at HR5
          have HOW8:=Lib.hid (show opsW cb w8=c8.ops from opsW_eq HCH8.out (HH9.out.right))
          have HB8:=Lib.hid (show c8.ops≤999999999999 by have:=HSIM7.out.1.2.2.2.2.2;have:=HSIM6.out.2.2.2.2.2;have:=HSM.out.2.2.2.2.2;have:=HO.out;have:=HN0.out;omega)
          go_wp2_with fail
          go_roundw
          case rel =>
           refine ⟨m,s8,c8,H8,Hc8,?_,by omega,HR5.out.symm,?_,(HGX.out.trans (⟨rfl,rfl,rfl,fun h=>h.next op⟩:(s4).Geo (nextY s4 op))).trans HGE7.out,HS8.out,HCH8.out,HH9.out.p,hG8⟩
           ·obtain ⟨x9,hx9,hxm⟩:=HCN6.out.2 (by first | rfl | trivial)
            have:=HCN7.out.2 (by first | rfl | trivial) x9 hx9 hxm
            have:=HCN6.out.1
            have:=HCN.out
            omega
           ·exact ((HSM.out.trans HSIM6.out).trans HSIM7.out.1).mono (by omega)
          case measure =>
           have h1:=HOP6.out (by first | rfl | trivial)
           have h2:=HSIM7.out.1.2.2.2.2.1
           have h3:=HOWX.out
           have h4:=HB8.out
           rw [HOW8.out]
           omega
         ·obtain ⟨be8,se8,rfl,rfl⟩:=isErrP8 he8 hc8
          clear he8
          rw [if_pos hc8] at HR5
          go_wp2_with fail
          go_ret2
          rw [HR5.out]
          exact ⟨_,_,H8,Hc8,rfl,HE8.out,HS8.out,HCH8.out,HH9.out.p,hG8⟩
        ·have e5:(code6 == 5)=false:=by simpa using h5
         have HR5:=Lib.hid (show res=(nextY s4 s4.op,c6,0,code6) by rw [← HTX.out];unfold putM;rw [if_neg h0,if_neg h5])
         rw [← HOE.out] at HR5
         go_upto_region 17 with fail
         refine HCD.out.mono ?_
         rintro e w7 ⟨rfl,rfl⟩
         go_wp2_with fail
         go_ret2
         rw [HR5.out]
         exact ⟨_,_,H5,Hc6,rfl,HE6.out,HS5.out,HCH6.out,HH8.out.p,hG6⟩
      ·obtain ⟨be4,se4,rfl,rfl⟩:=isErrP8 he4 hc4
       clear he4
       rw [if_pos hc4] at HRES3
       go_wp2_with fail
       go_ret2
       rw [← HRES3.out]
       exact ⟨_,_,H4,Hc4,rfl,HE4.out,HSX.out,HCX.out,HH4.out.p,hGX⟩
     ·rw [show takeT s' c'=(s',c',0) by unfold takeT;exact if_neg hl] at HTG HRES3
      have e4:(leftI s' c' == 0)=false:=by simpa using hl
      dsimp only at HTG HRES3
      rw [if_neg (by simp)] at HRES3
      have HTX:=HRES3
      have HGX:=HGX'
      have HSX:=HSX'
      have HCX:=HCX'
      have HSM:=Lib.hid (HSM'.out.mono (m:=50 * ((N0:Int) - (m+1))+40) (by omega))
      have HCN:=Lib.hid hm1
      have HOX:=Lib.hid (HTG.out.2.2.2 rfl HOR.out)
      have HOWX:=Lib.hid (show opsW cb wr≤c'.ops by rw [HOW'.out];exact Int.le_refl _)
      have hGX:=hgr.drewN q
      have hHX:=HHR.out.drewN q
      clear hl hgr HLF
      generalize wr.drewN q=w4 at *
      go_upto_region 12 with fail
      obtain ⟨yb5,mb5,hcells5,hnext5⟩:=HSX.out.next
      obtain ⟨x0,x1,x2,x3,x4,x5,x6⟩:=hcells5 w4 _ hHX
      have HNY:=Lib.hid (hnext5 s'.op w4 _ hHX)
      have HPG:=Lib.hid ((HGX.out.2.2.2 HYO.out).nextP (by have:=HPB.out;omega) s'.op)
      have HOB:=Lib.hid (show s'.op<s'.B by obtain ⟨_,_,_,_,_,_,_,_,_,_,h,_⟩:=HSX.out;exact h.2)
      have HTH:=Lib.hid (show c'.there s'.op=true by unfold CM.there;rw [HSM.out.2.2.1,HBC.out.1,← HGX.out.1];exact decide_eq_true ⟨HOX.out,HOB.out⟩)
      have HRL:=Lib.hid (show (layL d ⟨hdk,hda,hds,hdg⟩).length=c'.Z+28 by rw [layL_len,HZE.out,HSM.out.2.1,HBC.out.2])
      clear hcells5 hnext5 hHX
      obtain ⟨op,hop⟩:∃ op,op=s'.op:=⟨_,rfl⟩
      rw [← hop] at HNY HPG HOB HTH HTX HOX x6
      have HOE:=Lib.hid hop
      clear hop
      obtain ⟨pg,hpg⟩:∃ pg,pg=(Ynext s'.y op).2.1:=⟨_,rfl⟩
      rw [← hpg] at HNY HPG HTX
      clear hpg
      go_upto_region 14 with fail
      refine HNY.out.mono ?_
      rintro e w5 ⟨ve5,He5,H5,rfl,he5,hs5,hH5,hg5⟩
      have HS5:=Lib.hid hs5
      have hH6:Holds w5 (H5++(Hc'++(Hr++((gh,.cells #[.int .i64 hdk,.int .u64 hda,.int .i64 hds,.int .i64 hdg] 37)::Fr)))):=hH5.p
      have hG5:=hGX.trans hg5
      clear he5 hs5 hH5 hg5 hGX HNY x0 x1 x2 x3 x4 x5 x6
      obtain ⟨yb6,mb6,hcells6,_⟩:=HS5.out.yards
      obtain ⟨x0,x1,x2,x3,x4,x5,x6⟩:=hcells6 w5 _ hH6
      have HPR:=Lib.hid (progI_any op pg HCX.out (hH6.swap) (by have:=HSM.out.2.2.2.2.2;have:=HO.out;have:=HN0.out;omega) HTH.out (fun wx hx=>HRW.out.at_ (hx.p:Holds wx (Hr++(H5++((gh,.cells #[.int .i64 hdk,.int .u64 hda,.int .i64 hds,.int .i64 hdg] 37)::Fr))))) HRL.out)
      have HSIM6:=Lib.hid (progI_sim c' op pg (layL d ⟨hdk,hda,hds,hdg⟩))
      have HCN6:=Lib.hid (progI_cnt c' op pg (layL d ⟨hdk,hda,hds,hdg⟩))
      have HOP6:=Lib.hid (fun h=>progI_ops (c:=c') (k:=op) (p:=pg) (raw:=layL d ⟨hdk,hda,hds,hdg⟩) h)
      clear hcells6 hH6
      generalize progI c' op pg (layL d ⟨hdk,hda,hds,hdg⟩)=pr at *
      obtain ⟨c6,code6⟩:=pr
      dsimp only at *
      go_upto_region 15 with fail
      refine HPR.out.mono ?_
      rintro e w6 ⟨G6,ve6,Hc6,He6,rfl,he6,hch6,hH7,hg7⟩
      dsimp only at he6 hch6
      have HCH6:=Lib.hid hch6
      have HE6:=Lib.hid he6
      have hG6:=hG5.trans hg7
      have hH8:Holds w6 (He6++(H5++(Hc6++(Hr++((gh,.cells #[.int .i64 hdk,.int .u64 hda,.int .i64 hds,.int .i64 hdg] 37)::Fr))))):=hH7.p
      have HCD:=Lib.hid (code_any ve6 code6 He6 _ w6 he6 hH8)
      have HH8:=Lib.hid hH8
      clear he6 hch6 hH7 hg7 hG5 hH8 HPR x0 x1 x2 x3 x4 x5 x6
      by_cases h0:code6=0
      ·subst h0
       have HR5:=Lib.hid (show res=(keepS (nextY s' s'.op) s'.op pg ⟨hdk,hda,hds,hdg⟩,c6,s'.op * s'.P+pg,0) by rw [← HTX.out];unfold putM;exact if_pos rfl)
       obtain ⟨s0,s1,s2,s3⟩:=HSW.out w6 (He6++(H5++(Hc6++Hr))) Fr (by simpa using HH8.out)
       have HKQ:=Lib.hid (HKP.out (nextY s' op) H5 op pg HS5.out w6 (Hc6++Fr) (HH8.out.p) HOX.out HOB.out HPG.out.1 (by show pg<(s'.P:Int);rw [HGX.out.2.1];exact HPG.out.2))
       go_upto_region 17 with fail
       refine HCD.out.mono ?_
       rintro e w7 ⟨rfl,rfl⟩
       go_upto_region 18 with fail
       go_upto_region 19 with fail
       refine HKQ.out.mono ?_
       rintro e w7 ⟨rfl,H7,hs7,hH9,hg9⟩
       have HS7:=Lib.hid hs7
       have HH9:=Lib.hid hH9
       have hG9:=hG6.trans hg9
       clear hs7 hH9 hg9 hG6 s0 s1 s2 s3 HKQ HCD
       go_wp2_with fail
       go_ret2
       rw [HR5.out,← HOE.out]
       exact ⟨_,[],H7,Hc6,rfl,IsErr.none,HS7.out,HCH6.out,HH9.out.p,hG9⟩
      ·have e0:(code6 == 0)=false:=by simpa using h0
       by_cases h5:code6=5
       ·subst h5
        have HTH6:=Lib.hid (show c6.there op=true by have:=HTH.out;unfold CM.there at this ⊢;rw [HSIM6.out.2.2.1];exact this)
        have HGV:=Lib.hid (giveI_any op HS5.out HCH6.out (HH8.out.right) (by have:=HSIM6.out.2.2.2.2.2;have:=HSM.out.2.2.2.2.2;have:=HO.out;have:=HN0.out;omega) HTH6.out)
        have HSIM7:=Lib.hid (giveI_sim (nextY s' op) c6 op)
        have HCN7:=Lib.hid (giveI_cnt (nextY s' op) c6 op)
        have HGE7:=Lib.hid (giveI_geo (nextY s' op) c6 op)
        have HR5:=Lib.hid (show res=if (giveI (nextY s' s'.op) c6 s'.op).2.2≠0 then ((giveI (nextY s' s'.op) c6 s'.op).1,(giveI (nextY s' s'.op) c6 s'.op).2.1,0,(giveI (nextY s' s'.op) c6 s'.op).2.2) else putL ⟨hdk,hda,hds,hdg⟩ (layL d ⟨hdk,hda,hds,hdg⟩) m (giveI (nextY s' s'.op) c6 s'.op).1 (giveI (nextY s' s'.op) c6 s'.op).2.1 by rw [← HTX.out];unfold putM;rw [if_neg (by simp),if_pos rfl])
        rw [← HOE.out] at HR5
        generalize giveI (nextY s' op) c6 op=gv at *
        obtain ⟨s8,c8,code8⟩:=gv
        dsimp only at *
        go_upto_region 17 with fail
        refine HCD.out.mono ?_
        rintro e w7 ⟨rfl,rfl⟩
        go_upto_region 18 with fail
        go_upto_region 21 with fail
        refine HGV.out.mono ?_
        rintro e w8 ⟨ve8,He8,H8,Hc8,rfl,he8,hs8,hch8,hH9,hg8⟩
        have HE8:=Lib.hid he8
        have HS8:=Lib.hid hs8
        have HCH8:=Lib.hid hch8
        have HH9:=Lib.hid hH9
        have hG8:=hG6.trans hg8
        clear hs8 hch8 hH9 hg8 hG6 HGV HCD
        by_cases hc8:code8=0
        ·subst hc8
         obtain ⟨rfl,rfl⟩:=isErr0 he8
         clear he8
         rw [if_neg (by simp)] at HR5
         have HOW8:=Lib.hid (show opsW cb w8=c8.ops from opsW_eq HCH8.out (HH9.out.right))
         have HB8:=Lib.hid (show c8.ops≤999999999999 by have:=HSIM7.out.1.2.2.2.2.2;have:=HSIM6.out.2.2.2.2.2;have:=HSM.out.2.2.2.2.2;have:=HO.out;have:=HN0.out;omega)
         go_wp2_with fail
         go_roundw
         case rel =>
          refine ⟨m,s8,c8,H8,Hc8,?_,by omega,HR5.out.symm,?_,(HGX.out.trans (⟨rfl,rfl,rfl,fun h=>h.next op⟩:(s').Geo (nextY s' op))).trans HGE7.out,HS8.out,HCH8.out,HH9.out.p,hG8⟩
          ·obtain ⟨x9,hx9,hxm⟩:=HCN6.out.2 (by first | rfl | trivial)
           have:=HCN7.out.2 (by first | rfl | trivial) x9 hx9 hxm
           have:=HCN6.out.1
           have:=HCN.out
           omega
          ·exact ((HSM.out.trans HSIM6.out).trans HSIM7.out.1).mono (by omega)
         case measure =>
          have h1:=HOP6.out (by first | rfl | trivial)
          have h2:=HSIM7.out.1.2.2.2.2.1
          have h3:=HOWX.out
          have h4:=HB8.out
          rw [HOW8.out]
          omega
        ·obtain ⟨be8,se8,rfl,rfl⟩:=isErrP8 he8 hc8
         clear he8
         rw [if_pos hc8] at HR5
         go_wp2_with fail
         go_ret2
         rw [HR5.out]
         exact ⟨_,_,H8,Hc8,rfl,HE8.out,HS8.out,HCH8.out,HH9.out.p,hG8⟩
       ·have e5:(code6 == 5)=false:=by simpa using h5
        have HR5:=Lib.hid (show res=(nextY s' s'.op,c6,0,code6) by rw [← HTX.out];unfold putM;rw [if_neg h0,if_neg h5])
        rw [← HOE.out] at HR5
        go_upto_region 17 with fail
        refine HCD.out.mono ?_
        rintro e w7 ⟨rfl,rfl⟩
        go_wp2_with fail
        go_ret2
        rw [HR5.out]
        exact ⟨_,_,H5,Hc6,rfl,HE6.out,HS5.out,HCH6.out,HH8.out.p,hG6⟩
   ·have HR2:=Lib.hid (show res=(s,c,0,4) by rw [HRES.out,if_neg (by rintro (h | h);exact HLAY.out h;exact h HZE.out),if_pos (by simpa using hon)])
    rw [show c.on=false by simpa using hon] at HON1
    have HW:=Lib.hid (swrong_any 4 w1 _ (by omega) hH4)
    clear hon hH4
    go_upto_region 6 with fail
    go_upto_region 8 with fail
    refine HON1.out.mono ?_
    rintro e w2 ⟨rfl,rfl⟩
    go_wp2_with fail
    refine HW.out.mono ?_
    rintro e w2 ⟨ve2,He2,rfl,he2,hH4,hg4⟩
    have HE2:=Lib.hid he2
    have HH4:=Lib.hid hH4
    clear he2 hH4 HW
    go_wp2_with fail
    go_ret2
    rw [HR2.out]
    exact ⟨_,He2,H,Hc,rfl,HE2.out,HST.out,HCH.out,HH4.out.p,hG3.trans hg4⟩
  ·have e1:((d.length:Int) != (s.Z:Int))=true:=by simp;omega
   have HR2:=Lib.hid (show res=(s,c,0,2) by rw [HRES.out,if_pos (.inr hz)])
   have HW:=Lib.hid (swrong_any 2 w1 _ (by omega) hH4)
   clear hz hH4
   go_wp2_with fail
   refine HW.out.mono ?_
   rintro e w2 ⟨ve2,He2,rfl,he2,hH4,hg4⟩
   have HE2:=Lib.hid he2
   have HH4:=Lib.hid hH4
   clear he2 hH4 HW
   go_wp2_with fail
   go_ret2
   rw [HR2.out]
   exact ⟨_,He2,H,Hc,rfl,HE2.out,HST.out,HCH.out,HH4.out.p,hG3.trans hg4⟩
end Go.Proofs.YtoelopghilbfeaaGreat
