/-
  Package nand: New.
-/
import Derived.Test.YtoelopghilbfeaaGreatNdA
namespace Go.Proofs.YtoelopghilbfeaaGreat
open Go.RowKit
set_option linter.unusedSimpArgs false
set_option linter.unusedVariables false
def IsInts (v:Value) (zs:List Int) (Fr:HL):Prop:=∀ w,Holds w Fr→NumsAt w v zs
def CB.new (P Z:Nat) (mark:Bool):CB:=⟨blankB P Z,0,0,false,mark⟩
def CM.new (B P Z:Nat) (marks:List Int) (ms:List Mi):CM:=⟨P,Z,(List.range B).map fun k:Nat=>CB.new P Z (marks.contains (k:Int)),ms,true,0,0,0⟩
theorem CM.new_ok (B P Z:Nat) (marks:List Int) (ms:List Mi) (hB1:1≤B) (hB:B≤32) (hP1:1≤P) (hP:P≤8) (hZ1:128≤Z) (hZ:Z≤256) (hm:ms.length≤24) (hmo:∀ m∈ms,m.ok):(CM.new B P Z marks ms).ok:=by
 refine ⟨hP1,hP,hZ1,hZ,by simpa [CM.new] using hB1,by simpa [CM.new] using hB,hm,hmo,Int.le_refl _,Int.le_refl _,Int.le_refl _,Int.le_refl _,Int.le_refl _,fun x hx=>?_⟩
 obtain ⟨k,_,rfl⟩:=List.mem_map.1 hx
 refine ⟨by simp [CB.new,blankB,CM.new],fun p hp=>?_,Int.le_refl _,by show (0:Int)≤(P:Int);omega,Int.le_refl _,Int.le_refl _⟩
 rw [List.eq_of_mem_replicate hp];simp [blankP,CM.new]
theorem contains_snoc8 (l:List Int) (k:Nat) (hk:k<l.length) (i:Int):(l.take (k+1)).contains i=((l.take k).contains i || decide (i=l[k])):=by
 rw [List.take_succ_eq_append_getElem hk,List.contains_append]
 simp [List.contains_eq_any_beq]
theorem new_mark (B P Z:Nat) (marks:List Int) (ms:List Mi) (j i:Nat) (hj:j<marks.length) (hi:i<B) (hm:marks[j]=(i:Int)) :
  (CM.new B P Z (marks.take j) ms).setB i { CB.new P Z ((marks.take j).contains (i:Int)) with mark:=true }=CM.new B P Z (marks.take (j+1)) ms:=by
 unfold CM.new CM.setB
 simp only [CM.mk.injEq,and_true,true_and]
 apply List.ext_getElem?
 intro k
 rw [List.getElem?_set]
 by_cases h:i=k
 ·subst h
  rw [if_pos rfl,if_pos (by simpa using hi),List.getElem?_map,List.getElem?_range hi,Option.map_some,contains_snoc8 marks j hj,hm,decide_eq_true rfl,Bool.or_true]
  rfl
 ·rw [if_neg h,List.getElem?_map,List.getElem?_map]
  by_cases hk:k<B
  ·have hne:¬ ((k:Int)=marks[j]):=by rw [hm];omega
   rw [List.getElem?_range hk,Option.map_some,Option.map_some,contains_snoc8 marks j hj,decide_eq_false hne,Bool.or_false]
  ·rw [List.getElem?_eq_none (by simp;omega)];rfl
def NewB8 (cb B P Z:Nat) (mv:Value) (R:HL) (w:World) (iv:Value) (wr:World):Prop :=
 ∃ (k:Nat) (A:Option Addr) (c:Nat) (Hb:HL),k≤B∧iv=.int .i64 k∧Rows2 cbR 88 5 (.slice A k c) (List.replicate k (CB.new P Z false)) Hb ∧
  Holds wr ((cb,.cells #[.int .i64 (B:Int),.int .i64 (P:Int),.int .i64 (Z:Int),.slice A k c,mv,.bool true,.int .i64 0,.int .i64 0,.int .i64 0] 84)::(Hb++R))∧Grew w wr
def NewM9 (cb g cap B P Z:Nat) (mv:Value) (marks:List Int) (ms:List Mi) (F:HL) (w:World) (iv:Value) (wr:World):Prop :=
 ∃ (j:Nat) (H:HL),j≤marks.length∧iv=.int .i64 j∧ChipAt cb g cap mv (CM.new B P Z (marks.take j) ms) H∧Holds wr (H++F)∧Grew w wr∧∀ x∈marks.take j,0≤x∧x<(B:Int)
set_option maxRecDepth 20000 in
set_option maxHeartbeats 4000000 in
theorem nnew_any (B P Z:Nat) (kv mv:Value) (marks:List Int) (ms:List Mi) (w:World) (Fr:HL) (hH:Holds w Fr) (hk:IsInts kv marks Fr) (hms:FrMs Fr mv ms)
  (hmay:∀ (wx:World) (F:HL),Holds wx (F++Fr)→Calls Tryz.prog 36 #[mv] wx (RetFr (.bool true) wx (F++Fr)))
  (hB1:1≤B) (hB:B≤32) (hP1:1≤P) (hP:P≤8) (hZ1:128≤Z) (hZ:Z≤256) (hml:ms.length≤24) (hmo:∀ m∈ms,m.ok) :
  Calls Tryz.prog 12 #[.agg #[.int .i64 (B:Int),.int .i64 (P:Int),.int .i64 (Z:Int)],kv,mv] w (fun e w'=>((∀ x∈marks,0≤x∧x<(B:Int))∧RetNew (fun v H=>IsChip v (CM.new B P Z marks ms) H) w Fr e w')∨((¬ ∀ x∈marks,0≤x∧x<(B:Int))∧RetFr (.pointer none) w Fr e w')):=by
 have HK:=Lib.hid hk
 have HMS:=Lib.hid hms
 have HMAY:=Lib.hid hmay
 have HMO:=Lib.hid hmo
 have hk0:=hk w hH
 have hkl:=ReadsAt.le hk0
 unfold maxLen at hkl
 obtain ⟨_,Ak,ck,rfl,_,_,_⟩:=hk0
 have hHA:=hH.alloc (.cells #[.int .i64 (B:Int),.int .i64 (P:Int),.int .i64 (Z:Int)] 26)
 have hGA:=(Grew.refl w).alloc (.cells #[.int .i64 (B:Int),.int .i64 (P:Int),.int .i64 (Z:Int)] 26)
 have HG:=Lib.hid (fun (wx:World) (HH:HL) (h:Holds wx HH) (hm:(w.heap.size,Obj.cells #[.int .i64 (B:Int),.int .i64 (P:Int),.int .i64 (Z:Int)] 26)∈HH) =>
  show wx.cell? ⟨w.heap.size,0,none⟩=some (.int .i64 (B:Int))∧wx.cell? ⟨w.heap.size,1,none⟩=some (.int .i64 (P:Int))∧wx.cell? ⟨w.heap.size,2,none⟩=some (.int .i64 (Z:Int)) from ⟨h.cell hm 0,h.cell hm 1,h.cell hm 2⟩)
 clear hk hms hmay hmo hH
 obtain ⟨x0,x1,x2⟩:=HG.out _ _ hHA (by simp)
 have HB1:=Lib.hid (show decide ((1:Int)≤(B:Int)∧(B:Int)≤32)=true from decide_eq_true (by omega))
 have HP1:=Lib.hid (show decide ((1:Int)≤(P:Int)∧(P:Int)≤8)=true from decide_eq_true (by omega))
 have HZ1:=Lib.hid (show decide ((128:Int)≤(Z:Int)∧(Z:Int)≤256)=true from decide_eq_true (by omega))
 go_enter Tryz.func12,Tryz.ntmps12
 go_wp2_with fail
 refine (nbetween_any _ _ _ _).mono ?_
 rintro e wx ⟨rfl,rfl⟩
 rw [HB1.out]
 go_wp2_with fail
 refine (nbetween_any _ _ _ _).mono ?_
 rintro e wx ⟨rfl,rfl⟩
 rw [HP1.out]
 go_wp2_with fail
 refine (nbetween_any _ _ _ _).mono ?_
 rintro e wx ⟨rfl,rfl⟩
 rw [HZ1.out]
 go_wp2_with fail
 refine (HMAY.out _ [_] hHA).mono ?_
 rintro e w1 ⟨rfl,hH1,hg1⟩
 clear x0 x1 x2
 have hG1:=hGA.trans hg1
 go_upto_region 3 with fail
 generalize w.heap.size=t at *
 refine Z_begin (fun wx=>wx.cell? ⟨t,0,none⟩=some (.int .i64 (B:Int))∧wx.cell? ⟨t,1,none⟩=some (.int .i64 (P:Int))∧wx.cell? ⟨t,2,none⟩=some (.int .i64 (Z:Int))) 6 (by kernel_rfl) (fun w1 hd=>HG.out _ _ (hH1.dr hd) (by simp)) (fun w1 hd hs=>?_)
 have hH2:=hH1.dr hd;have hG2:=hG1.trans (Grew.dr hd);clear hd hH1 hG1 hg1 hHA hGA
 refine Zt 0 31 ?_ rfl hs ?_ ?_
 rotate_left
 ·rintro wx ⟨x0,x1,x2⟩;go_simp;try with_reducible rfl
 simp only [pt,sA,sS,sZ]
 refine Zt 1 32 ?_ rfl hs ?_ ?_
 rotate_left
 ·rintro wx ⟨x0,x1,x2⟩;go_simp;try with_reducible rfl
 simp only [pt,sA,sS,sZ]
 refine Z_mid 2 rfl (by kernel_rfl) (fun K hK=>?_)
 have ⟨x0,x1,x2⟩:=hs
 go_simp;refine (clonemi_any mv ms w1 _ (HMS.out w1 hH2.tail) hH2 (by omega)).mono ?_;rintro e w3 ⟨v3,Hm,rfl,hm3,hH3,hg3⟩;obtain ⟨_,A3,q3,hv3,_,_,_⟩:=IsRow.reads hm3 hH3;subst hv3
 clear x0 x1 x2
 refine hK _ _ (HG.out _ _ hH3 (by simp)) (fun hs2=>?_);clear hK K hs;have hs:=hs2;clear hs2
 refine Zt 3 34 ?_ rfl hs ?_ ?_
 rotate_left
 ·rintro wx ⟨x0,x1,x2⟩;go_simp;try with_reducible rfl
 simp only [pt,sA,sS,sZ]
 refine Z_mid 4 rfl (by kernel_rfl) (fun K hK=>?_)
 have ⟨x0,x1,x2⟩:=hs
 go_simp
 clear x0 x1 x2
 refine hK _ _ (HG.out _ _ (hH3.alloc _) (by simp)) (fun hs2=>?_);clear hK K hs;have hs:=hs2;clear hs2
 refine Zt 5 7 ?_ rfl hs ?_ ?_
 rotate_left
 ·rintro wx ⟨x0,x1,x2⟩;go_simp;try with_reducible rfl
 simp only [pt,sA,sS,sZ]
 refine Z_done (by kernel_rfl) ?_ _
 have hH4:=hH3.alloc (.cells #[.int .i64 (B:Int),.int .i64 (P:Int),.int .i64 (Z:Int),.slice none 0 0,.slice A3 ms.length q3,.bool true,.int .i64 0,.int .i64 0,.int .i64 0] 84)
 have hG4:=(hG2.trans hg3).alloc (.cells #[.int .i64 (B:Int),.int .i64 (P:Int),.int .i64 (Z:Int),.slice none 0 0,.slice A3 ms.length q3,.bool true,.int .i64 0,.int .i64 0,.int .i64 0] 84)
 have HM3:=Lib.hid hm3
 clear hH2 hH3 hG2 hg3 hm3
 generalize w3.alloc (.cells #[.int .i64 (B:Int),.int .i64 (P:Int),.int .i64 (Z:Int),.slice none 0 0,.slice A3 ms.length q3,.bool true,.int .i64 0,.int .i64 0,.int .i64 0] 84)=w4 at *
 generalize w3.heap.size=cb at *
 obtain ⟨x0,x1,x2⟩:=HG.out _ _ hH4 (by simp)
 go_wp2_with fail
 go_loopw [38] (fun iv wr=>NewB8 cb B P Z (.slice A3 ms.length q3) (Hm++((t,.cells #[.int .i64 (B:Int),.int .i64 (P:Int),.int .i64 (Z:Int)] 26)::Fr)) w iv wr) (fun iv _=>B - (intOf iv).toNat)
 case atStart=>exact ⟨0,none,0,[],by omega,rfl,Rows2.nil _ _ _,hH4,hG4⟩
 case round =>
  obtain ⟨k,A,c,Hb,hk,rfl,hr,hHr,hgr⟩:=hrel
  clear hH4 hG4 x0 x1 x2
  by_cases hlt:k<B
  ·obtain ⟨cells,H0,H1,rfl,hrow,_,hadd⟩:=hr.parts3
   simp only [List.length_replicate] at hrow hadd
   have HROW:=Lib.hid hrow
   have HADD:=Lib.hid hadd
   have HS:=Lib.hid (fun (wx:World) (HH:HL) (hx:Holds wx HH) (hm:(cb,Obj.cells #[.int .i64 (B:Int),.int .i64 (P:Int),.int .i64 (Z:Int),.slice A k c,.slice A3 ms.length q3,.bool true,.int .i64 0,.int .i64 0,.int .i64 0] 84)∈HH)=>And.intro (hx.cell hm 3) (hx.frozen hm 3))
   clear hrow hadd hr
   go_upto_region 6 with fail
   refine Z_begin (fun wx=>wx.cell? ⟨cb,3,none⟩=some (.slice A k c)∧wx.frozen? ⟨cb,3,none⟩=false) 12 (by kernel_rfl) (fun w1 hd=>HS.out _ _ (hHr.dr hd) (by simp)) (fun w1 hd hs=>?_)
   have hH1:=hHr.dr hd;have hG1:=hgr.trans (Grew.dr hd);clear hd hHr hgr
   refine Zt 0 40 ?_ rfl hs ?_ ?_
   rotate_left
   ·rintro wx ⟨x1,x2⟩;go_simp;try with_reducible rfl
   simp only [pt,sA,sS,sZ]
   refine Zt 1 41 ?_ rfl hs ?_ ?_
   rotate_left
   ·rintro wx ⟨x1,x2⟩;go_simp;try with_reducible rfl
   simp only [pt,sA,sS,sZ]
   refine Zt 2 42 ?_ rfl hs ?_ ?_
   rotate_left
   ·rintro wx ⟨x1,x2⟩;go_simp;try with_reducible rfl
   simp only [pt,sA,sS,sZ]
   refine Zt 3 43 ?_ rfl hs ?_ ?_
   rotate_left
   ·rintro wx ⟨x1,x2⟩;go_simp;try with_reducible rfl
   simp only [pt,sA,sS,sZ]
   refine Zt 4 44 ?_ rfl hs ?_ ?_
   rotate_left
   ·rintro wx ⟨x1,x2⟩;go_simp;try with_reducible rfl
   simp only [pt,sA,sS,sZ]
   refine Zt 5 45 ?_ rfl hs ?_ ?_
   rotate_left
   ·rintro wx ⟨x1,x2⟩;go_simp;try with_reducible rfl
   simp only [pt,sA,sS,sZ]
   refine Z_mid 6 rfl (by kernel_rfl) (fun K hK=>?_)
   have ⟨x1,x2⟩:=hs
   go_simp;refine (nempty_any cb P Z w1 _ hH1 (fun wx hx=>⟨by simpa using hx.hcell 1,by simpa using hx.hcell 2⟩) hP1 hP hZ).mono ?_;rintro e w5 ⟨v5,H5,rfl,hb5,hH5,hg5⟩;obtain ⟨A5,q5,rfl,_,_⟩:=hb5.val
   clear x1 x2
   refine hK _ _ (HS.out _ _ hH5 (by simp)) (fun hs2=>?_);clear hK K hs;have hs:=hs2;clear hs2
   refine Zt 7 47 ?_ rfl hs ?_ ?_
   rotate_left
   ·rintro wx ⟨x1,x2⟩;go_simp;try with_reducible rfl
   simp only [pt,sA,sS,sZ]
   refine Z_mid 8 rfl (by kernel_rfl) (fun K hK=>?_)
   have ⟨x1,x2⟩:=hs
   go_simp
   clear x1 x2
   refine hK _ _ (HS.out _ _ (hH5.alloc _) (by simp)) (fun hs2=>?_);clear hK K hs;have hs:=hs2;clear hs2
   refine Z_mid 9 rfl (by kernel_rfl) (fun K hK=>?_)
   have ⟨x1,x2⟩:=hs
   refine step_append_T tNblocks (by rfl) _ _ (by rfl) (by rfl) (by rfl) HROW.out (Fr:=H5++((cb,.cells #[.int .i64 (B:Int),.int .i64 (P:Int),.int .i64 (Z:Int),.slice A k c,.slice A3 ms.length q3,.bool true,.int .i64 0,.int .i64 0,.int .i64 0] 84)::(H1++(Hm++((t,.cells #[.int .i64 (B:Int),.int .i64 (P:Int),.int .i64 (Z:Int)] 26)::Fr))))) ((hH5.alloc' _).p) (ReadsAt.many (n:=1) (size:=5) (by rfl) (by simp [maxLen])) (by simp [Value.oneCell']) (by simp [maxLen];omega) (by omega) ?_;intro A' c3 w' H' hrow2 hH6 hg6
   clear x1 x2
   refine hK _ _ (HS.out _ _ hH6 (by simp)) (fun hs2=>?_);clear hK K hs;have hs:=hs2;clear hs2
   refine Zt 10 50 ?_ rfl hs ?_ ?_
   rotate_left
   ·rintro wx ⟨x1,x2⟩;go_simp;try with_reducible rfl
   simp only [pt,sA,sS,sZ]
   refine Zt 11 51 ?_ rfl hs ?_ ?_
   rotate_left
   ·rintro wx ⟨x1,x2⟩;go_simp;try with_reducible rfl
   simp only [pt,sA,sS,sZ]
   refine Z_last 12 rfl (by kernel_rfl) rfl (fun K hK=>?_)
   have ⟨x1,x2⟩:=hs
   go_simp
   clear x1 x2
   refine hK _ _ ?_;clear hK K hs
   refine Z_done (by kernel_rfl) ?_ _
   have hset:Holds (w'.setCell ⟨cb,3,none⟩ (.slice A' (k+1) c3)) ((cb,.cells #[.int .i64 (B:Int),.int .i64 (P:Int),.int .i64 (Z:Int),.slice A' (k+1) c3,.slice A3 ms.length q3,.bool true,.int .i64 0,.int .i64 0,.int .i64 0] 84)::((H'++(H1++H5))++(Hm++((t,.cells #[.int .i64 (B:Int),.int .i64 (P:Int),.int .i64 (Z:Int)] 26)::Fr)))) :=
    Holds.set (cs:=#[.int .i64 (B:Int),.int .i64 (P:Int),.int .i64 (Z:Int),.slice A k c,.slice A3 ms.length q3,.bool true,.int .i64 0,.int .i64 0,.int .i64 0]) (hH6.p) 3 _
   have hadd2:=HADD.out (.slice A' (k+1) c3) H' _ (CB.new P Z false) H5 rfl ⟨_,rfl,hb5⟩ hrow2
   rw [← List.replicate_succ'] at hadd2
   have hfin:NewB8 cb B P Z (.slice A3 ms.length q3) (Hm++((t,.cells #[.int .i64 (B:Int),.int .i64 (P:Int),.int .i64 (Z:Int)] 26)::Fr)) w (.int .i64 ((k:Int)+1)) (w'.setCell ⟨cb,3,none⟩ (.slice A' (k+1) c3)) :=
    ⟨k+1,A',c3,_,by omega,by go_num,hadd2,hset,(((hG1.trans hg5).alloc _).trans hg6).setCell _ _⟩
   have HFIN:=Lib.hid hfin
   clear hfin hset hadd2 hrow2 hH6 hH5 hH1 hG1 hg5 hg6 hb5
   go_wp2_with fail
   exact ⟨HFIN.out,by simp [intOf];omega⟩
  ·obtain rfl:k=B:=by omega
   obtain ⟨g,cap,_,_,_,hv,_⟩:=hr.open2 (i:=0) (x:=CB.new P Z false) (by rw [List.getElem?_replicate,if_pos (by omega)])
   injection hv with hv hv2 hv3
   subst hv hv3
   clear hv2
   have hrep:(CM.new k P Z (marks.take 0) ms).blocks=List.replicate k (CB.new P Z false):=by
    show ((List.range k).map fun i:Nat=>CB.new P Z ((marks.take 0).contains (i:Int)))=_
    apply List.ext_getElem
    ·simp
    ·intro i h1 h2;simp
   have hlen0:(CM.new k P Z (marks.take 0) ms).blocks.length=k:=by rw [hrep];simp
   have hC:ChipAt cb g c (.slice A3 ms.length q3) (CM.new k P Z (marks.take 0) ms) ((cb,chipO g c (.slice A3 ms.length q3) (CM.new k P Z (marks.take 0) ms))::(Hb++Hm)) :=
    ⟨Hb,Hm,by rw [hrep,List.length_replicate];simpa using hr,HM3.out,CM.new_ok k P Z _ ms hB1 hB hP1 hP hZ1 hZ hml HMO.out,rfl⟩
   have hco:chipO g c (.slice A3 ms.length q3) (CM.new k P Z (marks.take 0) ms)=.cells #[.int .i64 (k:Int),.int .i64 (P:Int),.int .i64 (Z:Int),.slice (some ⟨g,0,none⟩) k c,.slice A3 ms.length q3,.bool true,.int .i64 0,.int .i64 0,.int .i64 0] 84:=by
    unfold chipO;rw [hlen0];rfl
   have hHc:Holds wr (((cb,chipO g c (.slice A3 ms.length q3) (CM.new k P Z (marks.take 0) ms))::(Hb++Hm))++((t,.cells #[.int .i64 (k:Int),.int .i64 (P:Int),.int .i64 (Z:Int)] 26)::Fr)):=by
    rw [hco];exact hHr.p
   have HC:=Lib.hid hC
   have HHC:=Lib.hid hHc
   clear hC hHc hco hlen0 hrep hr hHr
   go_wp2_with fail
   go_loopw [9,55] (fun _ iv wr=>NewM9 cb g c k P Z (.slice A3 ms.length q3) marks ms ((t,.cells #[.int .i64 (k:Int),.int .i64 (P:Int),.int .i64 (Z:Int)] 26)::Fr) w iv wr) (fun _ iv _=>marks.length - (intOf iv).toNat)
   case atStart=>exact ⟨0,_,by omega,rfl,HC.out,HHC.out,hgr,by simp⟩
   case round =>
    obtain ⟨j,H,hj,rfl,hC1,hHs,hgs,hin⟩:=hrel
    by_cases hlj:j<marks.length
    ·obtain ⟨_,A9,c9,hv9,_,_,hrd9⟩:=HK.out wr hHs.right.tail
     injection hv9 with hv1 hv2 hv3
     subst hv1 hv3
     clear hv2
     obtain ⟨ba,oa,rfl,hwc⟩:=hrd9 (by omega)
     have y0:=hwc j (.int .i64 marks[j]) (by simp [hlj])
     by_cases hmk:0≤marks[j]∧marks[j]<(k:Int)
     ·obtain ⟨hi0,hi1⟩:=hmk
      have hin2:∀ x∈marks.take (j+1),0≤x∧x<(k:Int):=by
       intro x hx
       rw [List.take_succ_eq_append_getElem hlj] at hx
       rcases List.mem_append.1 hx with h | h
       ·exact hin x h
       ·rw [List.mem_singleton.1 h];exact ⟨hi0,hi1⟩
      obtain ⟨i,hi⟩:=Int.eq_ofNat_of_zero_le hi0
      have hmj:=Lib.hid hi
      have hik:i<k:=by omega
      obtain ⟨x0,x1,x2⟩:=HG.out wr _ hHs (by simp)
      have hbk:(CM.new k P Z (marks.take j) ms).blocks[i]?=some (CB.new P Z ((marks.take j).contains (i:Int))):=by
       show ((List.range k).map fun i:Nat=>CB.new P Z ((marks.take j).contains (i:Int)))[i]?=_
       rw [List.getElem?_map,List.getElem?_range hik];rfl
      obtain ⟨pv,hB⟩:=hC1.open_ hbk
      obtain ⟨H',hc',hH'⟩:=hB.setM wr _ true hHs
      rw [new_mark k P Z marks ms j i hlj hik hi] at hc'
      have hbl:(CM.new k P Z (marks.take j) ms).blocks.length=k:=by simp [CM.new]
      have d3:=(hC1.heads hHs).2.2.2.1
      have hcap:=hC1.caps
      rw [hbl] at d3 hcap
      unfold maxLen at hcap
      obtain ⟨_,_,_,_,d4,_,_,_,_,f4⟩:=hB.cells wr _ hHs
      rw [hi] at y0
      have HB3:=Lib.hid (show decide ((0:Int)≤(i:Int)∧(i:Int)≤(k:Int) - 1)=true from decide_eq_true (by omega))
      have hfin:NewM9 cb g c k P Z (.slice A3 ms.length q3) marks ms ((t,.cells #[.int .i64 (k:Int),.int .i64 (P:Int),.int .i64 (Z:Int)] 26)::Fr) w (.int .i64 ((j:Int)+1)) (wr.setCell ⟨g,i * 5+4,none⟩ (.bool true)) :=
       ⟨j+1,H',by omega,by go_num,hc',hH',hgs.setCell _ _,hin2⟩
      have HFIN:=Lib.hid hfin
      clear hfin hin2 hin hc' hH' hB hbk hbl hC1 hHs hgs hwc hrd9 hi hi0 hi1
      go_wp2_with fail
      refine (nbetween_any _ _ _ _).mono ?_
      rintro e wx ⟨rfl,rfl⟩
      rw [HB3.out]
      go_wp2_with fail
      exact ⟨HFIN.out,by simp [intOf];omega⟩
     ·have HB3:=Lib.hid (show decide ((0:Int)≤marks[j]∧marks[j]≤(k:Int) - 1)=false from decide_eq_false (by omega))
      have hnot:¬ ∀ x∈marks,0≤x∧x<(k:Int):=fun h=>hmk (h _ (List.getElem_mem hlj))
      obtain ⟨x0,x1,x2⟩:=HG.out wr _ hHs (by simp)
      have HNOT:=Lib.hid hnot
      have hHf:=Holds.mid (B:=[_]) hHs
      clear hnot hmk hC1 hwc hrd9 hin
      generalize marks[j]=mk at *
      go_wp2_with fail
      refine (nbetween_any _ _ _ _).mono ?_
      rintro e wx ⟨rfl,rfl⟩
      rw [HB3.out]
      go_wp2_with fail
      go_ret
      exact Or.inr ⟨HNOT.out,rfl,hHf.right,hgs⟩
    ·obtain rfl:j=marks.length:=by omega
     rw [List.take_length] at hC1 hin
     have HIN:=Lib.hid hin
     clear hin
     have HC1:=Lib.hid hC1;clear hC1
     go_wp2_with fail
     go_ret
     exact Or.inl ⟨HIN.out,_,H,rfl,⟨cb,g,c,_,rfl,HC1.out⟩,Holds.mid (B:=[_]) hHs,hgs⟩
theorem nnew_good (B P Z:Nat) (kv mv:Value) (marks:List Int) (ms:List Mi) (w:World) (Fr:HL) (hH:Holds w Fr) (hk:IsInts kv marks Fr) (hms:FrMs Fr mv ms)
  (hmay:∀ (wx:World) (F:HL),Holds wx (F++Fr)→Calls Tryz.prog 36 #[mv] wx (RetFr (.bool true) wx (F++Fr)))
  (hB1:1≤B) (hB:B≤32) (hP1:1≤P) (hP:P≤8) (hZ1:128≤Z) (hZ:Z≤256) (hml:ms.length≤24) (hmo:∀ m∈ms,m.ok) (hin:∀ x∈marks,0≤x∧x<(B:Int)) :
  Calls Tryz.prog 12 #[.agg #[.int .i64 (B:Int),.int .i64 (P:Int),.int .i64 (Z:Int)],kv,mv] w (RetNew (fun v H=>IsChip v (CM.new B P Z marks ms) H) w Fr) :=
 (nnew_any B P Z kv mv marks ms w Fr hH hk hms hmay hB1 hB hP1 hP hZ1 hZ hml hmo).mono fun e w' h=>h.elim (fun h=>h.2) fun h=>absurd hin h.1
end Go.Proofs.YtoelopghilbfeaaGreat
