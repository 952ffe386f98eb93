/-
  Package store: take.
-/
import Derived.Test.YtoelopghilbfeaaGreatSt6
import Derived.Test.YtoelopghilbfeaaGreatPlA
namespace Go.Proofs.YtoelopghilbfeaaGreat
open Go.RowKit
set_option linter.unusedSimpArgs false
set_option linter.unusedVariables false
variable {b cb g cap:Nat} {mv:Value} {c:CM} {s:SM} {H Hc Fr:HL} {w:World}
theorem countsL_len (s:SM) (c:CM):(countsL s c).length=s.B:=by simp [countsL]
theorem mem_emptyL {s:SM} {c:CM} {x:Int}:x∈emptyL s c↔∃ i:Nat,x=i∧i<s.B∧countB s c i=true:=by
 unfold emptyL orderW
 rw [mem_sortK,mem_countTo,countsL_len]
 constructor
 ·rintro ⟨i,rfl,hi,h⟩
  refine ⟨i,rfl,hi,?_⟩
  simpa [countsL,List.getD_eq_getElem?_getD,List.getElem?_map,List.getElem?_range hi] using h
 ·rintro ⟨i,rfl,hi,h⟩
  refine ⟨i,rfl,hi,?_⟩
  simpa [countsL,List.getD_eq_getElem?_getD,List.getElem?_map,List.getElem?_range hi] using h
theorem emptyL_len (s:SM) (c:CM):(emptyL s c).length≤s.B:=by
 unfold emptyL orderW
 rw [sortK_len]
 have:=countTo_len (countsL s c) (countsL s c).length
 rw [countsL_len] at this ⊢
 exact this
def TkTo (b cb g cap:Nat) (mv:Value) (L:List Int) (res:SM × CM × Int) (s0:SM) (c0:CM) (w:World) (F:HL) (i:Value) (wr:World):Prop :=
 ∃ (k:Nat) (s':SM) (c':CM) (H' Hc':HL),k≤L.length∧i=.int .i64 k∧takeL (L.drop k) s' c'=res∧c0.Sim c' (2 * k)∧s'.B=s0.B∧StAt b cb s' H'∧ChipAt cb g cap mv c' Hc'∧Holds wr (H'++(Hc'++F))∧Grew w wr
set_option maxRecDepth 20000 in
set_option maxHeartbeats 8000000 in
theorem take_any (h:StAt b cb s H) (hch:ChipAt cb g cap mv c Hc) (hH:Holds w (H++(Hc++Fr))) (hB:s.B<20) (hops:c.ops≤999999999000) (hBc:c.blocks.length=s.B) :
  Calls Tryz.prog 47 #[.pointer (some ⟨b,0,none⟩)] w (RetSE b cb g cap mv (takeS s c).1 (takeS s c).2.1 (takeS s c).2.2 w Fr):=by
 have HE:=Lib.hid (empty_any h hch hH hB)
 have HST:=Lib.hid h
 have HCH:=Lib.hid hch
 have HRS:=Lib.hid (show takeL (emptyL s c) s c=takeS s c from rfl)
 have HLM:Hid (∀ x∈emptyL s c,∃ i:Nat,x=i∧i<s.B):=Lib.hid (fun x hx=>by obtain ⟨i,h1,h2,_⟩:=mem_emptyL.1 hx;exact ⟨i,h1,h2⟩)
 have hLl:=emptyL_len s c
 generalize takeS s c=res at *
 generalize emptyL s c=L at *
 clear h hch hH
 have k1:=err_ne
 have k2:=nil_ne
 go_enter Tryz.func47,Tryz.ntmps47
 go_upto_region 1 with fail
 go_upto_region 2 with fail
 refine HE.out.mono ?_
 rintro e w1 ⟨v,Hl,rfl,hv,hH1,hg1⟩
 have HVL:=Lib.hid hv
 obtain ⟨Al,cl,rfl⟩:=hv.val
 clear hv HE
 have hll:L.length<20:=by omega
 go_wp2_with fail
 go_loopw [10] (fun i wr=>TkTo b cb g cap mv L res s c w (Hl++Fr) i wr) (fun i _=>L.length - (intOf i).toNat)
 case atStart=>exact ⟨0,s,c,H,Hc,by omega,rfl,HRS.out,CM.Sim.refl c,rfl,HST.out,HCH.out,hH1.p,hg1⟩
 case round =>
  clear hH1 hg1
  obtain ⟨k,s',c',H',Hc',hk,rfl,hres,hsim,hsB,hst,hch,hHr,hgr⟩:=hrel
  have HST':=Lib.hid hst
  have HCH':=Lib.hid hch
  have HSIM:=Lib.hid hsim
  have HSB:=Lib.hid hsB
  by_cases hlt:k<L.length
  ·have hp:Holds wr (Hl++(H'++(Hc'++Fr))):=hHr.p
   obtain ⟨_,A,c9,hv1,hq1,hq2,ha⟩:=HVL.out.at_ hp
   injection hv1 with hv1 _ hv3
   subst hv1 hv3
   obtain ⟨bl,ol,rfl,hcl⟩:=ha (by omega)
   have hc1:=hcl k (.int .i64 L[k]) (by simp [hlt])
   clear hcl
   rw [List.drop_eq_getElem_cons hlt] at hres
   obtain ⟨xi,hxi,hxB⟩:=HLM.out L[k] (List.getElem_mem hlt)
   rw [hxi] at hc1 hres
   obtain ⟨x,hx⟩:∃ x:Int,x=(xi:Int):=⟨_,rfl⟩
   rw [← hx] at hc1 hres
   have HX:=Lib.hid hx
   clear hxi
   have hth:c'.there x=true:=by unfold CM.there;rw [hsim.2.2.1,hBc];exact decide_eq_true (by omega)
   have hops':c'.ops<999999999900:=by have:=hsim.2.2.2.2.2;omega
   have HRES:=Lib.hid hres
   obtain ⟨yb,mb,hcells,hseal,hfree,hopen,_⟩:=hst.yards
   have HCL:=Lib.hid hcells
   obtain ⟨x0,x1,x2,x3,x4,x5,x6⟩:=hcells wr _ hHr
   have HNX:=Lib.hid (nnext_any x hch (hHr.right))
   have HHR:=Lib.hid hHr
   have hkn:(k:Int)<(L.length:Int):=by omega
   have hnb:=next_bd hch.cok x
   obtain ⟨nx,hnx⟩:∃ nx,nx=c'.nextOf x:=⟨_,rfl⟩
   rw [← hnx] at HNX hnb
   have HNE:=Lib.hid hnx
   clear hnx
   clear hx ha hp hres hsim hsB hst hch hseal hfree hopen hcells hHr
   by_cases hn0:0<nx
   ·have HTH:=Lib.hid hth
    clear hth
    go_upto_region 5 with fail
    refine HNX.out.mono ?_
    rintro e w2 ⟨rfl,rfl⟩
    have HER:=Lib.hid (eraseI_any x HCH'.out (HHR.out.swap) (by omega) HTH.out)
    go_upto_region 6 with fail
    refine HER.out.mono ?_
    rintro e w2 ⟨G,ve,Hc2,He,rfl,he,hch2,hH2,hg2⟩
    have HCH2:=Lib.hid hch2
    have HSIM2:=Lib.hid (eraseI_sim c' x)
    have hH3:Holds w2 (He++(H'++(Hc2++(Hl++Fr)))):=hH2.p
    have HCD:=Lib.hid (code_any ve _ He _ w2 he hH3)
    have hG2:=hgr.trans hg2
    have HHE:=Lib.hid he
    have hH2e:=Lib.hid hH3
    have HEQ:=Lib.hid (show takeL (x::L.drop (k+1)) s' c'=if (eraseI c' x).2=5 then
      if (giveI s' (eraseI c' x).1 x).2.2≠0 then giveI s' (eraseI c' x).1 x
      else takeL (L.drop (k+1)) (giveI s' (eraseI c' x).1 x).1 (giveI s' (eraseI c' x).1 x).2.1
     else if (eraseI c' x).2≠0 then (s',(eraseI c' x).1,(eraseI c' x).2)
     else (openS s' x,(eraseI c' x).1,0) by rw [takeL,if_pos (by rw [← HNE.out];exact hn0)])
    have HTH2:=Lib.hid (show (eraseI c' x).1.there x=true by have:=HTH.out;unfold CM.there at this ⊢;rw [HSIM2.out.2.2.1];exact this)
    clear he hch2 hH2 hg2 hgr HER x0 x1 x2 x3 x4 x5 x6
    generalize eraseI c' x=er at *
    obtain ⟨c2,code⟩:=er
    dsimp only at *
    have hH4:Holds w2 (H'++(Hc2++(Hl++Fr))):=hH3.right
    clear hH3
    by_cases h5:code=5
    ·subst h5
     rw [if_pos rfl] at HEQ
     have HGV:=Lib.hid (giveI_any x HST'.out HCH2.out hH4 (by have:=HSIM2.out.2.2.2.2.2;omega) HTH2.out)
     have HSIM3:=Lib.hid (giveI_sim s' c2 x)
     clear hH4
     generalize giveI s' c2 x=gv at *
     obtain ⟨s3,c3,code3⟩:=gv
     dsimp only at *
     go_upto_region 7 with fail
     refine HCD.out.mono ?_
     rintro e w3 ⟨rfl,rfl⟩
     go_upto_region 8 with fail
     refine HGV.out.mono ?_
     rintro e w3 ⟨ve3,He3,H3,Hc3,rfl,he3,hs3,hch3,hH5,hg3⟩
     have hG3:=hG2.trans hg3
     have HS3:=Lib.hid hs3
     have HCH3:=Lib.hid hch3
     have HHE3:=Lib.hid he3
     have HH5:=Lib.hid hH5
     clear hs3 hch3 hg3 hG2 hH5 HGV HCD
     by_cases hc3:code3=0
     ·subst hc3
      obtain ⟨rfl,rfl⟩:=isErr0 he3
      clear he3
      go_wp2_with fail
      go_roundw
      case rel =>
       refine ⟨k+1,s3,c3,H3,Hc3,by omega,by go_num,?_,?_,HSIM3.out.2.trans HSB.out,HS3.out,HCH3.out,HH5.out.p,hG3⟩
       ·rw [if_neg (by simp)] at HEQ
        rw [← HEQ.out];exact HRES.out
       ·exact ((HSIM.out.trans HSIM2.out).trans HSIM3.out.1).mono (by omega)
      case measure=>simp [intOf];omega
     ·obtain ⟨be3,se3,rfl,rfl⟩:=isErrP8 he3 hc3
      rw [if_pos hc3] at HEQ
      clear he3
      go_wp2_with fail
      go_ret
      rw [← HRES.out,HEQ.out]
      exact ⟨_,_,H3,Hc3,rfl,HHE3.out,HS3.out,HCH3.out,HH5.out.p,hG3⟩
    ·rw [if_neg h5] at HEQ
     have e5:(code == 5)=false:=by simpa using h5
     by_cases hc0:code=0
     ·subst hc0
      rw [if_neg (by simp)] at HEQ
      obtain ⟨rfl,rfl⟩:=isErr0 HHE.out
      go_upto_region 7 with fail
      refine HCD.out.mono ?_
      rintro e w1 ⟨rfl,rfl⟩
      go_upto_region 12 with fail
      have HS1:=HST'
      have HCX:=HCH2
      have hH1:Holds w2 (H'++(Hc2++Fr)):=hH4.p
      have hG1:=hG2
      have HR1:=Lib.hid (show res=(openS s' x,c2,0) by rw [← HRES.out];exact HEQ.out)
      have HXR1:=Lib.hid (show -1≤x∧x<(s'.B:Int) by have:=HX.out;have:=HSB.out;omega)
      clear hH4 hG2 HCD
      obtain ⟨yb1,mb1,hcells1,hseal1,_⟩:=HS1.out.yards
      have HCL1:=Lib.hid hcells1
      obtain ⟨x0,x1,x2,x3,x4,x5,x6⟩:=hcells1 w2 _ hH1
      by_cases ho:s'.op=-1
      ·have HR2:=Lib.hid (show res=({ ropenS (freeS s' x) x with op:=x },c2,0) by rw [HR1.out];unfold openS sealS;rw [if_pos ho])
       have HXR:=Lib.hid (show -1≤x∧x<(s'.B:Int) from HXR1.out)
       rw [ho] at x6
       clear hcells1 hseal1 ho
       go_upto_region 14 with fail
       have HS2:=HS1
       have hH2:=hH1
       have hG2:=hG1
       clear x0 x1 x2 x3 x4 x5 x6 hH1 hG1
       obtain ⟨yb2,mb2,hcells2,_,hfree2,_,_⟩:=HS2.out.yards
       obtain ⟨x0,x1,x2,x3,x4,x5,x6⟩:=hcells2 w2 _ hH2
       have HF:=Lib.hid (hfree2 x w2 _ hH2)
       clear hcells2 hfree2 hH2
       go_upto_region 15 with fail
       refine HF.out.mono ?_
       rintro e w3 ⟨ve3,He3,H3,rfl,he3,hs3,hH3,hg3⟩
       have HS3:=Lib.hid hs3
       have hH4:Holds w3 (H3++(Hc2++Fr)):=hH3.p
       have hG3:=hG2.trans hg3
       clear he3 hs3 hH3 hg3 hG2 HF x0 x1 x2 x3 x4 x5 x6
       obtain ⟨yb3,mb3,hcells3,_,_,hopen3,_⟩:=HS3.out.yards
       obtain ⟨x0,x1,x2,x3,x4,x5,x6⟩:=hcells3 w3 _ hH4
       have HO:=Lib.hid (hopen3 x w3 _ hH4)
       clear hcells3 hopen3 hH4
       go_upto_region 16 with fail
       refine HO.out.mono ?_
       rintro e w4 ⟨ve4,He4,H4,rfl,he4,hs4,hH5,hg4⟩
       have HS4:=Lib.hid hs4
       have hH6:Holds w4 (H4++(Hc2++Fr)):=hH5.p
       have hG4:=hG3.trans hg4
       clear he4 hs4 hH5 hg4 hG3 HO x0 x1 x2 x3 x4 x5 x6
       obtain ⟨yb4,mb4,hcells4,_⟩:=HS4.out.yards
       obtain ⟨x0,x1,x2,x3,x4,x5,x6⟩:=hcells4 w4 _ hH6
       obtain ⟨H5,hs5,hset⟩:=HS4.out.setOp x HXR.out.1 HXR.out.2
       obtain ⟨h7,f7,l7⟩:=hset w4 _ hH6
       have H7:=Lib.hid h7
       have HS5:=Lib.hid hs5
       clear hcells4 hset hH6 h7 hs5
       go_wp2_with fail
       go_ret
       rw [HR2.out]
       exact ⟨_,[],H5,Hc2,rfl,IsErr.none,HS5.out,HCX.out,H7.out,hG4.setCell _ _⟩
      ·have HR2:=Lib.hid (show res=({ ropenS (freeS { s' with y:=(Yturn s'.y s'.op 2 3).1 } x) x with op:=x },c2,0) by rw [HR1.out];unfold openS sealS;rw [if_neg ho])
       have HXR:=Lib.hid (show -1≤x∧x<(s'.B:Int) from HXR1.out)
       have e6:(s'.op != -1)=true:=by simpa using ho
       have HSL:=Lib.hid (hseal1 s'.op)
       clear hcells1 hseal1 ho
       go_upto_region 13 with fail
       clear x0 x1 x2 x3 x4 x5 x6
       refine Z_begin (fun wx=>wx.cell? ⟨b,0,none⟩=some (.pointer (some ⟨yb1,0,none⟩))∧wx.cell? ⟨b,6,none⟩=some (.int .i64 s'.op)) 8 (by kernel_rfl) (fun w1 hd=>⟨(HCL1.out _ _ (hH1.dr hd)).1,(HCL1.out _ _ (hH1.dr hd)).2.2.2.2.2.2⟩) (fun w1 hd hs=>?_)
       have hHa:=hH1.dr hd;have hGa:=hG1.trans (Grew.dr hd);clear hd hH1 hG1
       refine Zt 0 44 ?_ rfl hs ?_ ?_
       rotate_left
       ·rintro wx ⟨s0,s6⟩;go_simp;try with_reducible rfl
       simp only [pt,sA,sS,sZ]
       refine Zt 1 45 ?_ rfl hs ?_ ?_
       rotate_left
       ·rintro wx ⟨s0,s6⟩;go_simp;try with_reducible rfl
       simp only [pt,sA,sS,sZ]
       refine Zt 2 46 ?_ rfl hs ?_ ?_
       rotate_left
       ·rintro wx ⟨s0,s6⟩;go_simp;try with_reducible rfl
       simp only [pt,sA,sS,sZ]
       refine Zt 3 47 ?_ rfl hs ?_ ?_
       rotate_left
       ·rintro wx ⟨s0,s6⟩;go_simp;try with_reducible rfl
       simp only [pt,sA,sS,sZ]
       refine Zt 4 48 ?_ rfl hs ?_ ?_
       rotate_left
       ·rintro wx ⟨s0,s6⟩;go_simp;try with_reducible rfl
       simp only [pt,sA,sS,sZ]
       refine Zt 5 49 ?_ rfl hs ?_ ?_
       rotate_left
       ·rintro wx ⟨s0,s6⟩;go_simp;try with_reducible rfl
       simp only [pt,sA,sS,sZ]
       refine Zt 6 50 ?_ rfl hs ?_ ?_
       rotate_left
       ·rintro wx ⟨s0,s6⟩;go_simp;try with_reducible rfl
       simp only [pt,sA,sS,sZ]
       refine Zt 7 51 ?_ rfl hs ?_ ?_
       rotate_left
       ·rintro wx ⟨s0,s6⟩;go_simp;try with_reducible rfl
       simp only [pt,sA,sS,sZ]
       refine Z_last 8 rfl (by kernel_rfl) rfl (fun K hK=>?_)
       have ⟨s0,s6⟩:=hs
       go_simp;refine (HSL.out w1 _ hHa).mono ?_;rintro e wb ⟨veb,Heb,Hb,rfl,heb,hsb,hHb,hgb⟩;have HS2:=Lib.hid hsb;have hH2:Holds wb (Hb++(Hc2++Fr)):=hHb.p;have hG2:=hGa.trans hgb;clear hHa hGa heb hsb hHb hgb
       clear s0 s6
       refine hK _ _ ?_;clear hK K hs
       refine Z_done (by kernel_rfl) ?_ _
       go_upto_region 14 with fail
       obtain ⟨yb2,mb2,hcells2,_,hfree2,_,_⟩:=HS2.out.yards
       obtain ⟨x0,x1,x2,x3,x4,x5,x6⟩:=hcells2 wb _ hH2
       have HF:=Lib.hid (hfree2 x wb _ hH2)
       clear hcells2 hfree2 hH2
       go_upto_region 15 with fail
       refine HF.out.mono ?_
       rintro e w3 ⟨ve3,He3,H3,rfl,he3,hs3,hH3,hg3⟩
       have HS3:=Lib.hid hs3
       have hH4:Holds w3 (H3++(Hc2++Fr)):=hH3.p
       have hG3:=hG2.trans hg3
       clear he3 hs3 hH3 hg3 hG2 HF x0 x1 x2 x3 x4 x5 x6
       obtain ⟨yb3,mb3,hcells3,_,_,hopen3,_⟩:=HS3.out.yards
       obtain ⟨x0,x1,x2,x3,x4,x5,x6⟩:=hcells3 w3 _ hH4
       have HO:=Lib.hid (hopen3 x w3 _ hH4)
       clear hcells3 hopen3 hH4
       go_upto_region 16 with fail
       refine HO.out.mono ?_
       rintro e w4 ⟨ve4,He4,H4,rfl,he4,hs4,hH5,hg4⟩
       have HS4:=Lib.hid hs4
       have hH6:Holds w4 (H4++(Hc2++Fr)):=hH5.p
       have hG4:=hG3.trans hg4
       clear he4 hs4 hH5 hg4 hG3 HO x0 x1 x2 x3 x4 x5 x6
       obtain ⟨yb4,mb4,hcells4,_⟩:=HS4.out.yards
       obtain ⟨x0,x1,x2,x3,x4,x5,x6⟩:=hcells4 w4 _ hH6
       obtain ⟨H5,hs5,hset⟩:=HS4.out.setOp x HXR.out.1 HXR.out.2
       obtain ⟨h7,f7,l7⟩:=hset w4 _ hH6
       have H7:=Lib.hid h7
       have HS5:=Lib.hid hs5
       clear hcells4 hset hH6 h7 hs5
       go_wp2_with fail
       go_ret
       rw [HR2.out]
       exact ⟨_,[],H5,Hc2,rfl,IsErr.none,HS5.out,HCX.out,H7.out,hG4.setCell _ _⟩
     ·obtain ⟨be3,se3,rfl,rfl⟩:=isErrP8 HHE.out hc0
      rw [if_pos hc0] at HEQ
      go_upto_region 7 with fail
      refine HCD.out.mono ?_
      rintro e w1 ⟨rfl,rfl⟩
      go_wp2_with fail
      go_ret
      rw [← HRES.out,HEQ.out]
      exact ⟨_,_,H',Hc2,rfl,HHE.out,HST'.out,HCH2.out,hH2e.out.p,hG2⟩
   ·have HR1:=Lib.hid (show res=(openS s' x,c',0) by rw [← HRES.out,takeL,if_neg (by rw [← HNE.out];exact hn0)])
    obtain rfl:nx=0:=by omega
    go_upto_region 5 with fail
    refine HNX.out.mono ?_
    rintro e w1 ⟨rfl,rfl⟩
    go_upto_region 12 with fail
    have HS1:=HST'
    have HCX:=HCH'
    have hH1:Holds wr (H'++(Hc'++Fr)):=HHR.out.p
    have hG1:=hgr
    have HXR1:=Lib.hid (show -1≤x∧x<(s'.B:Int) by have:=HX.out;have:=HSB.out;omega)
    clear hgr x0 x1 x2 x3 x4 x5 x6
    obtain ⟨yb1,mb1,hcells1,hseal1,_⟩:=HS1.out.yards
    have HCL1:=Lib.hid hcells1
    obtain ⟨x0,x1,x2,x3,x4,x5,x6⟩:=hcells1 wr _ hH1
    by_cases ho:s'.op=-1
    ·have HR2:=Lib.hid (show res=({ ropenS (freeS s' x) x with op:=x },c',0) by rw [HR1.out];unfold openS sealS;rw [if_pos ho])
     have HXR:=Lib.hid (show -1≤x∧x<(s'.B:Int) from HXR1.out)
     rw [ho] at x6
     clear hcells1 hseal1 ho
     go_upto_region 14 with fail
     have HS2:=HS1
     have hH2:=hH1
     have hG2:=hG1
     clear x0 x1 x2 x3 x4 x5 x6 hH1 hG1
     obtain ⟨yb2,mb2,hcells2,_,hfree2,_,_⟩:=HS2.out.yards
     obtain ⟨x0,x1,x2,x3,x4,x5,x6⟩:=hcells2 wr _ hH2
     have HF:=Lib.hid (hfree2 x wr _ hH2)
     clear hcells2 hfree2 hH2
     go_upto_region 15 with fail
     refine HF.out.mono ?_
     rintro e w3 ⟨ve3,He3,H3,rfl,he3,hs3,hH3,hg3⟩
     have HS3:=Lib.hid hs3
     have hH4:Holds w3 (H3++(Hc'++Fr)):=hH3.p
     have hG3:=hG2.trans hg3
     clear he3 hs3 hH3 hg3 hG2 HF x0 x1 x2 x3 x4 x5 x6
     obtain ⟨yb3,mb3,hcells3,_,_,hopen3,_⟩:=HS3.out.yards
     obtain ⟨x0,x1,x2,x3,x4,x5,x6⟩:=hcells3 w3 _ hH4
     have HO:=Lib.hid (hopen3 x w3 _ hH4)
     clear hcells3 hopen3 hH4
     go_upto_region 16 with fail
     refine HO.out.mono ?_
     rintro e w4 ⟨ve4,He4,H4,rfl,he4,hs4,hH5,hg4⟩
     have HS4:=Lib.hid hs4
     have hH6:Holds w4 (H4++(Hc'++Fr)):=hH5.p
     have hG4:=hG3.trans hg4
     clear he4 hs4 hH5 hg4 hG3 HO x0 x1 x2 x3 x4 x5 x6
     obtain ⟨yb4,mb4,hcells4,_⟩:=HS4.out.yards
     obtain ⟨x0,x1,x2,x3,x4,x5,x6⟩:=hcells4 w4 _ hH6
     obtain ⟨H5,hs5,hset⟩:=HS4.out.setOp x HXR.out.1 HXR.out.2
     obtain ⟨h7,f7,l7⟩:=hset w4 _ hH6
     have H7:=Lib.hid h7
     have HS5:=Lib.hid hs5
     clear hcells4 hset hH6 h7 hs5
     go_wp2_with fail
     go_ret
     rw [HR2.out]
     exact ⟨_,[],H5,Hc',rfl,IsErr.none,HS5.out,HCX.out,H7.out,hG4.setCell _ _⟩
    ·have HR2:=Lib.hid (show res=({ ropenS (freeS { s' with y:=(Yturn s'.y s'.op 2 3).1 } x) x with op:=x },c',0) by rw [HR1.out];unfold openS sealS;rw [if_neg ho])
     have HXR:=Lib.hid (show -1≤x∧x<(s'.B:Int) from HXR1.out)
     have e6:(s'.op != -1)=true:=by simpa using ho
     have HSL:=Lib.hid (hseal1 s'.op)
     clear hcells1 hseal1 ho
     go_upto_region 13 with fail
     clear x0 x1 x2 x3 x4 x5 x6
     refine Z_begin (fun wx=>wx.cell? ⟨b,0,none⟩=some (.pointer (some ⟨yb1,0,none⟩))∧wx.cell? ⟨b,6,none⟩=some (.int .i64 s'.op)) 8 (by kernel_rfl) (fun w1 hd=>⟨(HCL1.out _ _ (hH1.dr hd)).1,(HCL1.out _ _ (hH1.dr hd)).2.2.2.2.2.2⟩) (fun w1 hd hs=>?_)
     have hHa:=hH1.dr hd;have hGa:=hG1.trans (Grew.dr hd);clear hd hH1 hG1
     refine Zt 0 44 ?_ rfl hs ?_ ?_
     rotate_left
     ·rintro wx ⟨s0,s6⟩;go_simp;try with_reducible rfl
     simp only [pt,sA,sS,sZ]
     refine Zt 1 45 ?_ rfl hs ?_ ?_
     rotate_left
     ·rintro wx ⟨s0,s6⟩;go_simp;try with_reducible rfl
     simp only [pt,sA,sS,sZ]
     refine Zt 2 46 ?_ rfl hs ?_ ?_
     rotate_left
     ·rintro wx ⟨s0,s6⟩;go_simp;try with_reducible rfl
     simp only [pt,sA,sS,sZ]
     refine Zt 3 47 ?_ rfl hs ?_ ?_
     rotate_left
     ·rintro wx ⟨s0,s6⟩;go_simp;try with_reducible rfl
     simp only [pt,sA,sS,sZ]
     refine Zt 4 48 ?_ rfl hs ?_ ?_
     rotate_left
     ·rintro wx ⟨s0,s6⟩;go_simp;try with_reducible rfl
     simp only [pt,sA,sS,sZ]
     refine Zt 5 49 ?_ rfl hs ?_ ?_
     rotate_left
     ·rintro wx ⟨s0,s6⟩;go_simp;try with_reducible rfl
     simp only [pt,sA,sS,sZ]
     refine Zt 6 50 ?_ rfl hs ?_ ?_
     rotate_left
     ·rintro wx ⟨s0,s6⟩;go_simp;try with_reducible rfl
     simp only [pt,sA,sS,sZ]
     refine Zt 7 51 ?_ rfl hs ?_ ?_
     rotate_left
     ·rintro wx ⟨s0,s6⟩;go_simp;try with_reducible rfl
     simp only [pt,sA,sS,sZ]
     refine Z_last 8 rfl (by kernel_rfl) rfl (fun K hK=>?_)
     have ⟨s0,s6⟩:=hs
     go_simp;refine (HSL.out w1 _ hHa).mono ?_;rintro e wb ⟨veb,Heb,Hb,rfl,heb,hsb,hHb,hgb⟩;have HS2:=Lib.hid hsb;have hH2:Holds wb (Hb++(Hc'++Fr)):=hHb.p;have hG2:=hGa.trans hgb;clear hHa hGa heb hsb hHb hgb
     clear s0 s6
     refine hK _ _ ?_;clear hK K hs
     refine Z_done (by kernel_rfl) ?_ _
     go_upto_region 14 with fail
     obtain ⟨yb2,mb2,hcells2,_,hfree2,_,_⟩:=HS2.out.yards
     obtain ⟨x0,x1,x2,x3,x4,x5,x6⟩:=hcells2 wb _ hH2
     have HF:=Lib.hid (hfree2 x wb _ hH2)
     clear hcells2 hfree2 hH2
     go_upto_region 15 with fail
     refine HF.out.mono ?_
     rintro e w3 ⟨ve3,He3,H3,rfl,he3,hs3,hH3,hg3⟩
     have HS3:=Lib.hid hs3
     have hH4:Holds w3 (H3++(Hc'++Fr)):=hH3.p
     have hG3:=hG2.trans hg3
     clear he3 hs3 hH3 hg3 hG2 HF x0 x1 x2 x3 x4 x5 x6
     obtain ⟨yb3,mb3,hcells3,_,_,hopen3,_⟩:=HS3.out.yards
     obtain ⟨x0,x1,x2,x3,x4,x5,x6⟩:=hcells3 w3 _ hH4
     have HO:=Lib.hid (hopen3 x w3 _ hH4)
     clear hcells3 hopen3 hH4
     go_upto_region 16 with fail
     refine HO.out.mono ?_
     rintro e w4 ⟨ve4,He4,H4,rfl,he4,hs4,hH5,hg4⟩
     have HS4:=Lib.hid hs4
     have hH6:Holds w4 (H4++(Hc'++Fr)):=hH5.p
     have hG4:=hG3.trans hg4
     clear he4 hs4 hH5 hg4 hG3 HO x0 x1 x2 x3 x4 x5 x6
     obtain ⟨yb4,mb4,hcells4,_⟩:=HS4.out.yards
     obtain ⟨x0,x1,x2,x3,x4,x5,x6⟩:=hcells4 w4 _ hH6
     obtain ⟨H5,hs5,hset⟩:=HS4.out.setOp x HXR.out.1 HXR.out.2
     obtain ⟨h7,f7,l7⟩:=hset w4 _ hH6
     have H7:=Lib.hid h7
     have HS5:=Lib.hid hs5
     clear hcells4 hset hH6 h7 hs5
     go_wp2_with fail
     go_ret
     rw [HR2.out]
     exact ⟨_,[],H5,Hc',rfl,IsErr.none,HS5.out,HCX.out,H7.out,hG4.setCell _ _⟩
  ·obtain rfl:k=L.length:=by omega
   rw [List.drop_length,takeL] at hres
   have HW:=Lib.hid (swrong_any 7 wr _ (by omega) hHr)
   have HR:=Lib.hid hres
   have hkn:¬ (L.length:Int)<(L.length:Int):=by omega
   clear hres hst hch hHr hsim hsB
   go_upto_region 19 with fail
   go_wp2_with fail
   refine HW.out.mono ?_
   rintro e w3 ⟨ve3,He3,rfl,he3,hH3,hg3⟩
   have HHE3:=Lib.hid he3
   have HH3:=Lib.hid hH3
   clear he3 hH3
   go_wp2_with fail
   go_ret
   rw [← HR.out]
   exact ⟨_,_,H',Hc',rfl,HHE3.out,HST'.out,HCH'.out,HH3.out.p,hgr.trans hg3⟩
end Go.Proofs.YtoelopghilbfeaaGreat
