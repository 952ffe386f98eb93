/-
  Package store: empty.
-/
import Derived.Test.YtoelopghilbfeaaGreatStA
namespace Go.Proofs.YtoelopghilbfeaaGreat
open Go.RowKit
set_option linter.unusedSimpArgs false
set_option linter.unusedVariables false
variable {b cb g cap:Nat} {mv:Value} {c:CM} {s:SM} {H Hc Fr:HL} {w:World}
def countB (s:SM) (c:CM) (k:Nat):Bool:=!c.markOf k && (decide ((Yneeded s.y k).length=0) && (decide ((k:Int)≠s.op) || decide (leftI s c=0)))
def wearsL (s:SM) (c:CM):List Int:=(List.range s.B).map fun k=>c.wearOf (k:Nat)
def countsL (s:SM) (c:CM):List Bool:=(List.range s.B).map (countB s c)
def emptyL (s:SM) (c:CM):List Int:=orderW (wearsL s c) (countsL s c)
def mixI (f:Nat→Int) (k n:Nat):List Int:=(List.range k).map f++List.replicate (n - k) 0
def mixB (f:Nat→Bool) (k n:Nat):List Bool:=(List.range k).map f++List.replicate (n - k) false
theorem mix_set {α:Type} (f:Nat→α) (d:α) {k n:Nat} (h:k<n):((List.range k).map f++List.replicate (n - k) d).set k (f k)=(List.range (k+1)).map f++List.replicate (n - (k+1)) d:=by
 have e:n - k=(n - (k+1))+1:=by omega
 rw [e,List.replicate_succ,List.set_append_right _ _ (by simp),List.length_map,List.length_range,Nat.sub_self,List.set_cons_zero,List.range_succ,List.map_append,List.append_assoc]
 rfl
theorem mix_len {α:Type} (f:Nat→α) (d:α) {k n:Nat} (h:k≤n):((List.range k).map f++List.replicate (n - k) d).length=n:=by simp;omega
def EmTo (s:SM) (c:CM) (gi gb n:Nat) (w:World) (F:HL) (i:Value) (wr:World):Prop :=
 ∃ (k:Nat) (HI HB:HL),k≤n∧i=.int .i64 k∧IsNums (.slice (some ⟨gi,0,none⟩) n n) (mixI (fun k=>c.wearOf (k:Nat)) k n) HI ∧
  IsRow 4 1 (.slice (some ⟨gb,0,none⟩) n n) n ((mixB (countB s c) k n).map Value.bool) HB∧Holds wr (HI++(HB++F))∧Grew w wr
theorem StAt.needed (h:StAt b cb s H):∃ yb mb,(∀ (w:World) (F:HL),Holds w (H++F)→w.cell? ⟨b,0,none⟩=some (.pointer (some ⟨yb,0,none⟩))∧w.cell? ⟨b,1,none⟩=some (.pointer (some ⟨cb,0,none⟩)) ∧
  w.cell? ⟨b,2,none⟩=some (.int .i64 (s.B:Int))∧w.cell? ⟨b,3,none⟩=some (.int .i64 (s.P:Int))∧w.cell? ⟨b,4,none⟩=some (.int .i64 (s.Z:Int))∧w.cell? ⟨b,5,none⟩=some (.map (some mb))∧w.cell? ⟨b,6,none⟩=some (.int .i64 s.op)) ∧
  ∀ (k:Int) (w:World) (F:HL),Holds w (H++F)→Calls Tryz.prog 68 #[.pointer (some ⟨yb,0,none⟩),.int .i64 k] w (RetNew (fun v H'=>IsNums v (Yneeded s.y k) H') w (H++F)):=by
 obtain ⟨yb,mb,es,clock,Hy,hy,_,_,_,_,_,_,rfl⟩:=h
 refine ⟨yb,mb,fun w F hX=>⟨hX.hcell 0,hX.hcell 1,hX.hcell 2,hX.hcell 3,hX.hcell 4,hX.hcell 5,hX.hcell 6⟩,fun k w F hX=>?_⟩
 have h1:Holds w (Hy++((b,stO yb cb mb s)::((mb,.map es clock)::F))):=hX.p
 refine (yneededL_any k hy h1).mono ?_
 rintro e w' ⟨v,H',rfl,hv,hH',hg⟩
 exact ⟨v,H',rfl,hv,hH'.p,hg⟩
set_option maxRecDepth 20000 in
set_option maxHeartbeats 8000000 in
theorem empty_any (h:StAt b cb s H) (hch:ChipAt cb g cap mv c Hc) (hH:Holds w (H++(Hc++Fr))) (hB:s.B<20) :
  Calls Tryz.prog 67 #[.pointer (some ⟨b,0,none⟩)] w (RetNew (fun v H'=>IsNums v (emptyL s c) H') w (H++(Hc++Fr))):=by
 have HST:=Lib.hid h
 have hpb:=plan_bd h.plan
 obtain ⟨yb,mb,hcl,hyn⟩:=h.needed
 have HCL:=Lib.hid hcl
 have HYN:=Lib.hid hyn
 have HWE:=Lib.hid (fun (k:Int) (wx:World) (F:HL) (hx:Holds wx (Hc++F))=>nwear_any k hch hx)
 have HMK:=Lib.hid (fun (k:Int) (wx:World) (F:HL) (hx:Holds wx (Hc++F))=>nmarked_any k hch hx)
 have HLF:=Lib.hid (fun (wx:World) (F:HL) (hx:Holds wx (H++(Hc++F)))=>left_any h hch hx)
 have HEL:=Lib.hid (show emptyL s c=orderW (wearsL s c) (countsL s c) from rfl)
 generalize emptyL s c=res at *
 obtain ⟨n,hn⟩:∃ n,n=s.B:=⟨_,rfl⟩
 have HN:=Lib.hid hn
 have hmi:=fun w=>run_makeN (P:=Tryz.prog) tInts n n (Nat.le_refl _) (by omega) (by simp [maxLen];omega) w
 have hmb:=fun w=>run_makeN (P:=Tryz.prog) tBools n n (Nat.le_refl _) (by omega) (by simp [maxLen];omega) w
 obtain ⟨is,his⟩:∃ is,is=madeCells (Value.int .i64 0).cells (n * 1):=⟨_,rfl⟩
 obtain ⟨bs,hbs⟩:∃ bs,bs=madeCells (Value.bool false).cells (n * 1):=⟨_,rfl⟩
 rw [← his] at hmi
 rw [← hbs] at hmb
 have HI0:Hid (∀ gi:Nat,IsNums (.slice (some ⟨gi,0,none⟩) n n) (mixI (fun k=>c.wearOf (k:Nat)) 0 n) [(gi,.cells is 3)]):=Lib.hid (fun gi=>by
  have h:=IsRow.made (size:=1) (e:=3) gi n is (by rw [his,made_size]) (by simp [maxLen];omega)
  have e:is.toList=(mixI (fun k=>c.wearOf (k:Nat)) 0 n).map (Value.int .i64):=by
   rw [his]
   apply List.ext_getElem
   ·simp [madeCells,mixI]
   ·intro i h1 h2
    simp [madeCells,Value.cells,Nat.mod_one,mixI]
  rw [e] at h
  unfold IsNums
  rw [show (mixI (fun k=>c.wearOf (k:Nat)) 0 n).length=n by unfold mixI;exact mix_len _ _ (by omega)]
  exact h)
 have HB0:Hid (∀ gb:Nat,IsRow 4 1 (.slice (some ⟨gb,0,none⟩) n n) n ((mixB (countB s c) 0 n).map Value.bool) [(gb,.cells bs 4)]):=Lib.hid (fun gb=>by
  have h:=IsRow.made (size:=1) (e:=4) gb n bs (by rw [hbs,made_size]) (by simp [maxLen];omega)
  have e:bs.toList=(mixB (countB s c) 0 n).map Value.bool:=by
   rw [hbs]
   apply List.ext_getElem
   ·simp [madeCells,mixB]
   ·intro i h1 h2
    simp [madeCells,Value.cells,Nat.mod_one,mixB]
  rw [e] at h
  exact h)
 have HSW:Hid (∀ (wx:World) (X F:HL),Holds wx (X++(H++F))→wx.cell? ⟨b,2,none⟩=some (.int .i64 (n:Int))∧wx.cell? ⟨b,3,none⟩=some (.int .i64 (s.P:Int))):=Lib.hid (fun wx X F hX=>by rw [hn];exact ⟨(hcl wx _ hX.right).2.2.1,(hcl wx _ hX.right).2.2.2.1⟩)
 rw [← hn] at hB hpb
 clear his hbs hcl hyn h hch hn
 have hg0:=Grew.refl w
 go_enter Tryz.func67,Tryz.ntmps67
 go_upto_region 1 with fail
 refine Y_begin (fun wx=>wx.cell? ⟨b,2,none⟩=some (.int .i64 (n:Int))∧wx.cell? ⟨b,3,none⟩=some (.int .i64 (s.P:Int))) 13 (by kernel_rfl) (fun w1 hd=>HSW.out _ [] _ (hH.dr hd)) (fun w1 hd hs=>?_)
 have hHc:=hH.dr hd;have hGc:=hg0.trans (Grew.dr hd);clear hd hH hg0
 refine Yt 0 6 ?_ rfl hs ?_ ?_
 rotate_left
 ·intro wx;go_simp;try with_reducible rfl
 simp only [pt,sA,sS,sZ]
 refine Yt 1 7 ?_ rfl hs ?_ ?_
 rotate_left
 ·intro wx;go_simp;try with_reducible rfl
 simp only [pt,sA,sS,sZ]
 refine Yt 2 8 ?_ rfl hs ?_ ?_
 rotate_left
 ·intro wx;go_simp;try with_reducible rfl
 simp only [pt,sA,sS,sZ]
 refine Yt 3 9 ?_ rfl hs ?_ ?_
 rotate_left
 ·intro wx;go_simp;try with_reducible rfl
 simp only [pt,sA,sS,sZ]
 refine Yd 4 10 ?_ rfl hs ?_ ?_
 rotate_left
 ·rintro wx ⟨s0,s1⟩;go_simp;try with_reducible rfl
 simp only [pt,sA,sS,sZ]
 refine Yt 6 12 ?_ rfl hs ?_ ?_
 rotate_left
 ·intro wx;go_simp;try with_reducible rfl
 simp only [pt,sA,sS,sZ]
 refine Yt 7 13 ?_ rfl hs ?_ ?_
 rotate_left
 ·intro wx;go_simp;try with_reducible rfl
 simp only [pt,sA,sS,sZ]
 refine Yt 8 14 ?_ rfl hs ?_ ?_
 rotate_left
 ·intro wx;go_simp;try with_reducible rfl
 simp only [pt,sA,sS,sZ]
 refine Yt 9 15 ?_ rfl hs ?_ ?_
 rotate_left
 ·intro wx;go_simp;try with_reducible rfl
 simp only [pt,sA,sS,sZ]
 refine Yd 10 16 ?_ rfl hs ?_ ?_
 rotate_left
 ·rintro wx ⟨s0,s1⟩;go_simp;try with_reducible rfl
 simp only [pt,sA,sS,sZ]
 refine Y_two 5 11 rfl rfl (by kernel_rfl) (fun K hK=>?_) (fun K hK=>?_)
 have ⟨s0,s1⟩:=hs
 have hq5:=hHc.alloc (.cells is 3);have gq5:=hGc.alloc (.cells is 3);go_simp;clear hHc hGc;have hHc:=hq5;have hGc:=gq5;clear hq5 gq5
 clear s0 s1
 refine hK _ _ ((by first | exact HSW.out _ [_] _ hHc | exact HSW.out _ [_,_] _ hHc)) (fun hs2=>?_);clear hK K hs;have hs:=hs2;clear hs2
 refine Yt 12 3 ?_ rfl hs ?_ ?_
 rotate_left
 ·intro wx;go_simp;try with_reducible rfl
 simp only [pt,sA,sS,sZ]
 refine Y_mid 11 rfl (by kernel_rfl) (fun K hK=>?_)
 have ⟨s0,s1⟩:=hs
 have hq5:=hHc.alloc (.cells bs 4);have gq5:=hGc.alloc (.cells bs 4);go_simp;clear hHc hGc;have hHc:=hq5;have hGc:=gq5;clear hq5 gq5
 clear s0 s1
 refine hK _ _ ((by first | exact HSW.out _ [_] _ hHc | exact HSW.out _ [_,_] _ hHc)) (fun hs2=>?_);clear hK K hs;have hs:=hs2;clear hs2
 refine Y_late 13 rfl (by kernel_rfl) (by kernel_rfl) (fun K hK=>?_)
 have ⟨s0,s1⟩:=hs
 go_simp
 clear s0 s1 hs
 refine hK _ _ ?_;clear hK K
 refine Y_done (by kernel_rfl) ?_ _
 rotate_left
 have ⟨s0,s1⟩:=hs
 have hq5:=hHc.alloc (.cells bs 4);have gq5:=hGc.alloc (.cells bs 4);go_simp;clear hHc hGc;have hHc:=hq5;have hGc:=gq5;clear hq5 gq5
 clear s0 s1
 refine hK _ _ ((by first | exact HSW.out _ [_] _ hHc | exact HSW.out _ [_,_] _ hHc)) (fun hs2=>?_);clear hK K hs;have hs:=hs2;clear hs2
 refine Y_mid 5 rfl (by kernel_rfl) (fun K hK=>?_)
 have ⟨s0,s1⟩:=hs
 have hq5:=hHc.alloc (.cells is 3);have gq5:=hGc.alloc (.cells is 3);go_simp;clear hHc hGc;have hHc:=hq5;have hGc:=gq5;clear hq5 gq5
 clear s0 s1
 refine hK _ _ ((by first | exact HSW.out _ [_] _ hHc | exact HSW.out _ [_,_] _ hHc)) (fun hs2=>?_);clear hK K hs;have hs:=hs2;clear hs2
 refine Yt 12 3 ?_ rfl hs ?_ ?_
 rotate_left
 ·intro wx;go_simp;try with_reducible rfl
 simp only [pt,sA,sS,sZ]
 refine Y_late 13 rfl (by kernel_rfl) (by kernel_rfl) (fun K hK=>?_)
 have ⟨s0,s1⟩:=hs
 go_simp
 clear s0 s1 hs
 refine hK _ _ ?_;clear hK K
 refine Y_done (by kernel_rfl) ?_ _
 rotate_left
 all_goals
  simp only [World.size_alloc] at hHc
  first
  |have hZ:Holds ((w1.alloc (.cells is 3)).alloc (.cells bs 4)) ([(w1.heap.size,(.cells is 3))]++([(w1.heap.size+1,(.cells bs 4))]++(H++(Hc++Fr)))):=by (have h:=hHc;exact Holds.swap (A:=[_]) (B:=[_]) h)
   change Exit.then _ _ _ _ ((w1.alloc (.cells is 3)).alloc (.cells bs 4))
   have hgz:=hGc
   clear hHc hGc
   generalize (w1.alloc (.cells is 3)).alloc (.cells bs 4)=wz at *
   generalize w1.heap.size+1=gb at *
   generalize w1.heap.size=gi at *
  |have hZ:Holds ((w1.alloc (.cells bs 4)).alloc (.cells is 3)) ([(w1.heap.size+1,(.cells is 3))]++([(w1.heap.size,(.cells bs 4))]++(H++(Hc++Fr)))):=hHc
   change Exit.then _ _ _ _ ((w1.alloc (.cells bs 4)).alloc (.cells is 3))
   have hgz:=hGc
   clear hHc hGc
   generalize (w1.alloc (.cells bs 4)).alloc (.cells is 3)=wz at *
   generalize w1.heap.size+1=gi at *
   generalize w1.heap.size=gb at *
  have x2:=(HSW.out wz ([_]++[_]) _ (by simpa using hZ)).1
  go_wp2_with fail
  go_loopw [23] (fun i wr=>EmTo s c gi gb n w (H++(Hc++Fr)) i wr) (fun i _=>n - (intOf i).toNat)
  case atStart=>exact ⟨0,_,_,by omega,rfl,HI0.out gi,HB0.out gb,hZ,hgz⟩
  case round =>
   clear x2 hZ hgz
   obtain ⟨k,HI,HB,hk,rfl,hi,hb,hHr,hgr⟩:=hrel
   have HBI:=Lib.hid hi
   have HBB:=Lib.hid hb
   have hil:(mixI (fun k=>c.wearOf (k:Nat)) k n).length=n:=mix_len _ _ hk
   have hbl:((mixB (countB s c) k n).map Value.bool).length=n:=by rw [List.length_map];exact mix_len _ _ hk
   clear hi hb
   by_cases hlt:k<n
   ·obtain ⟨x0,x1,x2,x3,x4,x5,x6⟩:=HCL.out wr (Hc++(HI++(HB++Fr))) (hHr.p)
    obtain ⟨gi',ci,hv1,_,hcm1,hgl1,hci,hfi,hseti⟩:=HBI.out.cell hHr (j:=k) (by omega)
    injection hv1 with hv1 hv2 hv3
    injection hv1 with hv1
    injection hv1 with hv1 _
    subst hv1 hv3
    clear hv2
    have HSI:=Lib.hid hseti
    have HW:=Lib.hid (HWE.out (k:Int) wr (H++(HI++(HB++Fr))) (hHr.p))
    clear hseti
    generalize (mixI (fun k=>c.wearOf (k:Nat)) k n)[k]=oldi at *
    clear hil
    have hkn:(k:Int)<(n:Int):=by omega
    go_wp2_with fail
    refine HW.out.mono ?_
    rintro e w' ⟨rfl,rfl⟩
    go_upto_region 6 with fail
    obtain ⟨HI2,hi2,hH2⟩:=HSI.out wr (HB++(H++(Hc++Fr))) hHr (c.wearOf (k:Nat))
    rw [show (mixI (fun k=>c.wearOf (k:Nat)) k n).set k (c.wearOf (k:Nat))=mixI (fun k=>c.wearOf (k:Nat)) (k+1) n from mix_set (fun k=>c.wearOf (k:Nat)) 0 hlt] at hi2
    have HI3:=Lib.hid hi2
    have hg2:=hgr.setCell ⟨gi,k,none⟩ (.int .i64 (c.wearOf (k:Nat)))
    clear x0 x1 x2 x3 x4 x5 x6 hi2 hci hfi hgl1 HSI HW HBI hHr hgr
    generalize wr.setCell ⟨gi,k,none⟩ (.int .i64 (c.wearOf (k:Nat)))=w2 at *
    obtain ⟨x0,x1,x2,x3,x4,x5,x6⟩:=HCL.out w2 (Hc++(HI2++(HB++Fr))) (hH2.p)
    have HM:=Lib.hid (HMK.out (k:Int) w2 (H++(HI2++(HB++Fr))) (hH2.p))
    have HMX:=Lib.hid (show ((mixB (countB s c) k n).map Value.bool).set k (.bool (countB s c k))=(mixB (countB s c) (k+1) n).map Value.bool by
     rw [← List.map_set,show (mixB (countB s c) k n).set k (countB s c k)=mixB (countB s c) (k+1) n from mix_set (countB s c) false hlt])
    have HEND:=Lib.hid (fun (w3:World) (h3:Holds w3 (HI2++(HB++(H++(Hc++Fr))))) (g3:Grew w w3) (u:Bool) (hu:u=countB s c k)=>show EmTo s c gi gb n w (H++(Hc++Fr)) (.int .i64 ((k:Int)+1)) (w3.setCell ⟨gb,k,none⟩ (.bool u)) by
     have hp:Holds w3 (HB++(HI2++(H++(Hc++Fr)))):=h3.p
     obtain ⟨gb',cb',hv1,_,_,_,_,_,hseti⟩:=HBB.out.cell hp (j:=k) (by omega)
     injection hv1 with hv1 hv2 hv3
     injection hv1 with hv1
     injection hv1 with hv1 _
     subst hv1 hv3 hu
     obtain ⟨HB2,hb2,hh⟩:=hseti w3 _ hp (.bool (countB s c k))
     rw [HMX.out] at hb2
     exact ⟨k+1,HI2,HB2,by omega,by go_num,HI3.out,hb2,hh.p,g3.setCell _ _⟩)
    have HCB:=Lib.hid (fun (w3:World) (h3:Holds w3 (HI2++(HB++(H++(Hc++Fr)))))=>show ∃ old,gb<w3.heap.size∧w3.cell? ⟨gb,k,none⟩=some old∧w3.frozen? ⟨gb,k,none⟩=false by
     have hp:Holds w3 (HB++(HI2++(H++(Hc++Fr)))):=h3.p
     obtain ⟨gb',cb',hv1,_,_,h1,h2,h3,_⟩:=HBB.out.cell hp (j:=k) (by omega)
     injection hv1 with hv1 hv2 hv3
     injection hv1 with hv1
     injection hv1 with hv1 _
     subst hv1 hv3
     exact ⟨_,h1,h2,h3⟩)
    by_cases hm:c.markOf (k:Nat)=true
    ·have HCN:=Lib.hid (show false=countB s c k by unfold countB;rw [hm];rfl)
     rw [hm] at HM
     obtain ⟨old,h1,h2,h3⟩:=HCB.out w2 hH2
     go_wp2_with fail
     refine HM.out.mono ?_
     rintro e w3 ⟨rfl,rfl⟩
     go_wp2_with fail
     go_roundw
     case rel=>exact HEND.out _ hH2 hg2 _ HCN.out
     case measure=>simp [intOf];omega
    ·rw [show c.markOf (k:Nat)=false by simpa using hm] at HM
     have HNE:=Lib.hid (HYN.out (k:Int) w2 (Hc++(HI2++(HB++Fr))) (hH2.p))
     clear hH2
     go_wp2_with fail
     refine HM.out.mono ?_
     rintro e w3 ⟨rfl,rfl⟩
     go_upto_region 7 with fail
     refine HNE.out.mono ?_
     rintro e w3 ⟨vn,Hn,rfl,hvn,hH3',hg3'⟩
     have hH3:Holds w3 (HI2++(HB++(H++(Hc++Fr)))):=(hH3'.right.p)
     have hg3:=hg2.trans hg3'
     obtain ⟨A2,c2,rfl⟩:=hvn.val
     obtain ⟨x0,x1,x2,x3,x4,x5,x6⟩:=HCL.out w3 (Hc++(HI2++(HB++Fr))) (hH3.p)
     obtain ⟨old,h1,h2,h3⟩:=HCB.out w3 hH3
     clear hvn hH3' hg3' hg2
     have HMH:=Lib.hid hm
     by_cases hl:(Yneeded s.y (k:Nat)).length=0
     ·have e1:(((Yneeded s.y (k:Nat)).length:Int) == 0)=true:=by simpa using hl
      have HLH:=Lib.hid hl
      clear hl hm
      by_cases ho:(k:Int)=s.op
      ·rw [← ho] at x6
       have HLE:=Lib.hid (fun q=>HLF.out (w3.drewN q) (HI2++(HB++Fr)) ((hH3.drewN q).p))
       have HOH:=Lib.hid ho
       clear ho
       have HCN:=Lib.hid (show decide (leftI s c=0)=countB s c k by unfold countB;rw [show c.markOf (k:Nat)=false by simpa using HMH.out,HLH.out];simp [← HOH.out])
       have e3:((leftI s c:Int) == 0)=decide (leftI s c=0):=by rw [Bool.eq_iff_iff];simp
       generalize decide (leftI s c=0)=dz at *
       generalize leftI s c=lz at *
       go_upto_region 7 with fail
       refine (HLE.out 0).mono ?_
       rintro e w4 ⟨rfl,q,rfl⟩
       have hH4:=hH3.drewN q
       have hg4:=hg3.drewN q
       go_wp2_with fail
       go_roundw
       case rel=>exact HEND.out _ hH4 hg4 _ HCN.out
       case measure=>simp [intOf];omega
      ·have e2:((k:Int) == s.op)=false:=by simpa using ho
       have HOH:=Lib.hid ho
       clear ho
       have HCN:=Lib.hid (show true=countB s c k by unfold countB;simp [HMH.out,HLH.out,HOH.out])
       go_wp2_with fail
       go_roundw
       case rel=>exact HEND.out _ hH3 hg3 _ HCN.out
       case measure=>simp [intOf];omega
     ·have e1:(((Yneeded s.y (k:Nat)).length:Int) == 0)=false:=by simpa using hl
      have HCN:=Lib.hid (show false=countB s c k by unfold countB;simp [hl])
      clear hl
      go_wp2_with fail
      go_roundw
      case rel=>exact HEND.out _ hH3 hg3 _ HCN.out
      case measure=>simp [intOf];omega
   ·obtain rfl:k=n:=by omega
    have HOR:=Lib.hid (order_any _ _ (wearsL s c) (countsL s c) wr (HI++(HB++(H++(Hc++Fr)))) (fun wx hx=>by
      have:=HBI.out.at_ hx
      rwa [show mixI (fun k=>c.wearOf (k:Nat)) k k=wearsL s c by unfold mixI wearsL;rw [Nat.sub_self,List.replicate_zero,List.append_nil,HN.out]] at this)
     (fun wx hx=>by
      have hp:Holds wx (HB++(HI++(H++(Hc++Fr)))):=hx.p
      have:=HBB.out.reads hp
      have e:mixB (countB s c) k k=countsL s c:=by unfold mixB countsL;rw [Nat.sub_self,List.replicate_zero,List.append_nil,HN.out]
      rw [e] at this
      unfold BlsAt
      have e2:(countsL s c).length=k:=by unfold countsL;rw [HN.out];simp
      rw [e2]
      exact this)
     hHr (by simp [wearsL,countsL]) (by have:=HN.out;simp [countsL];omega))
    rw [← HEL.out] at HOR
    clear hHr hil hbl
    have hkn:¬ (k:Int)<(k:Int):=by omega
    go_wp2_with fail
    refine HOR.out.mono ?_
    rintro e w' ⟨v,H',rfl,hv,hH',hg'⟩
    have HV:=Lib.hid hv
    clear hv
    go_wp2_with fail
    go_ret
    exact ⟨_,H',rfl,HV.out,hH'.p,hgr.trans hg'⟩
end Go.Proofs.YtoelopghilbfeaaGreat
