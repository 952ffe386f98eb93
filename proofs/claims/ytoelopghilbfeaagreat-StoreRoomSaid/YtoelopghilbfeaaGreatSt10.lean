/-
  Package store: New.
-/
import Derived.Test.YtoelopghilbfeaaGreatSt9
import Derived.Test.YtoelopghilbfeaaGreatNd12
import Derived.Test.YtoelopghilbfeaaGreatPlA
import Derived.Test.YtoelopghilbfeaaGreatYds
import Derived.Test.YtoelopghilbfeaaGreatBase
namespace Go.Proofs.YtoelopghilbfeaaGreat
open Go.RowKit
set_option linter.unusedSimpArgs false
set_option linter.unusedVariables false
variable {b cb g cap:Nat} {mv:Value} {c:CM} {s:SM} {H Hc Fr:HL} {w:World}
def SM.Sim (s s':SM):Prop:=s'.B=s.B∧s'.P=s.P∧s'.Z=s.Z∧s'.op=s.op∧(Yok s.P s.y→Yok s.P s'.y)
theorem SM.Sim.refl (s:SM):s.Sim s:=⟨rfl,rfl,rfl,rfl,id⟩
theorem SM.Sim.trans {s1 s2 s3:SM} (h:s1.Sim s2) (h2:s2.Sim s3):s1.Sim s3:=by
 obtain ⟨a1,a2,a3,a4,a5⟩:=h
 obtain ⟨b1,b2,b3,b4,b5⟩:=h2
 rw [a2] at b5
 exact ⟨b1.trans a1,b2.trans a2,b3.trans a3,b4.trans a4,fun h=>b5 (a5 h)⟩
theorem nextY_sim (s:SM) (k:Int):s.Sim (nextY s k):=⟨rfl,rfl,rfl,rfl,fun h=>h.next k⟩
theorem keepS_sim (s:SM) (k p:Int) (h:Hd):s.Sim (keepS s k p h):=⟨rfl,rfl,rfl,rfl,fun h=>h.need k p _⟩
theorem lookN_sim (n:Nat):∀ (s:SM) (c:CM) (k:Int),s.Sim (lookN n s c k).1∧c.Sim (lookN n s c k).2.1 n:=by
 induction n with
 |zero=>intro s c k;exact ⟨SM.Sim.refl s,CM.Sim.refl c⟩
 |succ n ih =>
  intro s c k
  have hr:=CM.read_sim c k (Ynext s.y k).2.1
  rw [lookN]
  split
  ·exact ⟨nextY_sim s k,hr.mono (by omega)⟩
  ·split
   ·rename_i q _
    obtain ⟨h1,h2⟩:=ih (keepS (nextY s k) k (Ynext s.y k).2.1 q.2) (c.read k (Ynext s.y k).2.1).1 k
    exact ⟨((nextY_sim s k).trans (keepS_sim _ _ _ _)).trans h1,(hr.trans h2).mono (by omega)⟩
   ·obtain ⟨h1,h2⟩:=ih (nextY s k) (c.read k (Ynext s.y k).2.1).1 k
    exact ⟨(nextY_sim s k).trans h1,(hr.trans h2).mono (by omega)⟩
theorem lookA_sim (s:SM) (c:CM) (k:Int) (h8:c.nextOf k≤8):s.Sim (lookA s c k).1∧c.Sim (lookA s c k).2.1 8:=by
 unfold lookA
 split
 ·obtain ⟨h1,h2⟩:=lookN_sim (c.nextOf k).toNat (ropenS s k) c k
  have h0:s.Sim (ropenS s k):=⟨rfl,rfl,rfl,rfl,fun h=>h.ropen k⟩
  split
  ·exact ⟨h0.trans h1,h2.mono (by omega)⟩
  ·exact ⟨(h0.trans h1).trans ⟨rfl,rfl,rfl,rfl,fun h=>h.turn _ _ _⟩,h2.mono (by omega)⟩
 ·exact ⟨SM.Sim.refl s,(CM.Sim.refl c).mono (by omega)⟩
theorem lookI_sim (s:SM) (c:CM) (k:Int) (h8:c.nextOf k≤8):s.Sim (lookI s c k).1∧c.Sim (lookI s c k).2.1 8:=by
 obtain ⟨h1,h2⟩:=lookA_sim s c k h8
 unfold lookI
 split
 ·exact ⟨h1,h2⟩
 ·unfold lookB
  split
  ·exact ⟨h1.trans ⟨rfl,rfl,rfl,rfl,fun h=>h.retire _⟩,h2⟩
  ·exact ⟨h1,h2⟩
def SM.fresh (B P Z:Nat):SM:=⟨B,P,Z,Ynew B P,[],-1⟩
def lookAll:Nat→Nat→SM→CM→SM × CM × Int
 |0,_,s,c=>(s,c,0)
 |n+1,k,s,c=>if (lookI s c k).2.2≠0 then lookI s c k else lookAll n (k+1) (lookI s c k).1 (lookI s c k).2.1
def newS (c:CM):SM × CM × Int:=lookAll c.blocks.length 0 (SM.fresh c.blocks.length c.P c.Z) c
def RetStN (cb g cap:Nat) (mv:Value) (res:SM × CM × Int) (w:World) (Fr:HL) (e:Ending) (w':World):Prop :=
 (res.2.2=0∧∃ b H' Hc',e=.returned (.tuple #[.pointer (some ⟨b,0,none⟩),.nilIface])∧StAt b cb res.1 H'∧ChipAt cb g cap mv res.2.1 Hc'∧Holds w' (H'++(Hc'++Fr))∧Grew w w') ∨
 (res.2.2≠0∧∃ ve He Hc',e=.returned (.tuple #[.pointer none,ve])∧IsErr ve res.2.2 He∧ChipAt cb g cap mv res.2.1 Hc'∧Holds w' (Hc'++(He++Fr))∧Grew w w')
def NwTo (b cb g cap:Nat) (mv:Value) (n:Nat) (res:SM × CM × Int) (s0:SM) (c0:CM) (w:World) (F:HL) (i:Value) (wr:World):Prop :=
 ∃ (k:Nat) (s':SM) (c':CM) (H' Hc':HL),k≤n∧i=.int .i64 k∧lookAll (n - k) k s' c'=res∧c0.Sim c' (8 * k)∧s0.Sim s'∧StAt b cb s' H'∧ChipAt cb g cap mv c' Hc'∧Holds wr (H'++(Hc'++F))∧Grew w wr
set_option maxRecDepth 20000 in
theorem new_nil (w:World) (Fr:HL) (hH:Holds w Fr):Calls Tryz.prog 14 #[.pointer none] w (fun e w'=>∃ ve He,e=.returned (.tuple #[.pointer none,ve])∧IsErr ve 1 He∧Holds w' (He++Fr)∧Grew w w'):=by
 have HW:=Lib.hid (swrong_any 1 w Fr (by omega) hH)
 clear hH
 go_enter Tryz.func14,Tryz.ntmps14
 go_wp2_with fail
 refine HW.out.mono ?_
 rintro e w1 ⟨ve,He,rfl,he,hH1,hg1⟩
 have HE:=Lib.hid he
 clear he HW
 go_wp2_with fail
 go_ret2
 exact ⟨ve,He,rfl,HE.out,hH1,hg1⟩
set_option maxRecDepth 20000 in
set_option maxHeartbeats 8000000 in
theorem new_any (hch:ChipAt cb g cap mv c Hc) (hH:Holds w (Hc++Fr)) (hp:planB c.blocks.length c.P c.Z=true) (hon:c.on=true) (hops:c.ops≤999999998000) :
  Calls Tryz.prog 14 #[.pointer (some ⟨cb,0,none⟩)] w (RetStN cb g cap mv (newS c) w Fr):=by
 have HG:=Lib.hid (fun (wx:World) (F:HL) (hx:Holds wx (Hc++F))=>ngeo_any hch hx)
 have HP:=Lib.hid (fun (wx:World) (F:HL) (hx:Holds wx F)=>plmay_any c.blocks.length c.P c.Z wx F hx)
 rw [hp] at HP
 have HON:=Lib.hid (fun (wx:World) (F:HL) (hx:Holds wx (Hc++F))=>non_any hch hx)
 rw [hon] at HON
 have hpb:=plan_bd hp
 have HYN:=Lib.hid (fun (wx:World) (F:HL) (hx:Holds wx F)=>ynew_good c.blocks.length c.P F wx hx (by omega) (by omega) (by omega) (by omega))
 have HPL:=Lib.hid hp
 have HCH:=Lib.hid hch
 have HOPS:=Lib.hid hops
 have HNW:=Lib.hid (show newS c=lookAll c.blocks.length 0 (SM.fresh c.blocks.length c.P c.Z) c from rfl)
 generalize newS c=res at *
 have k1:=err_ne
 have k2:=nil_ne
 have hmk:=run_makeMap (P:=Tryz.prog) 94
 obtain ⟨n,hn⟩:∃ n,n=c.blocks.length:=⟨_,rfl⟩
 rw [← hn] at HG HP HYN HNW hpb HPL
 have HN:=Lib.hid hn
 obtain ⟨P,hP⟩:∃ P,P=c.P:=⟨_,rfl⟩
 obtain ⟨Z,hZ⟩:∃ Z,Z=c.Z:=⟨_,rfl⟩
 rw [← hP] at HG HP HYN HNW hpb HPL
 rw [← hZ] at HG HP HNW hpb HPL
 have HPE:=Lib.hid (And.intro hP hZ)
 clear hn hP hZ hch hp hon hops
 go_enter Tryz.func14,Tryz.ntmps14
 go_upto_region 4 with fail
 refine (HG.out w _ hH).mono ?_
 rintro e w1 ⟨rfl,hH1,hg1⟩
 have HP1:=Lib.hid (HP.out w1 _ hH1)
 go_upto_region 4 with fail
 refine HP1.out.mono ?_
 rintro e w2 ⟨rfl,hH2,hg2⟩
 have HON2:=Lib.hid (HON.out w2 _ hH2)
 have hG2:=hg1.trans hg2
 clear hH hH1 hg1 hg2 HP1 HON HP
 go_upto_region 7 with fail
 refine HON2.out.mono ?_
 rintro e w3 ⟨rfl,rfl⟩
 have HG3:=Lib.hid (HG.out w2 _ hH2)
 clear hH2 HG HON2
 go_upto_region 8 with fail
 refine HG3.out.mono ?_
 rintro e w3 ⟨rfl,hH3,hg3⟩
 have hG3:=hG2.trans hg3
 clear HG3 hg3 hG2
 go_upto_region 8 with fail
 have hH4:=hH3.alloc (.cells #[.int .i64 (n:Int),.int .i64 (P:Int),.int .i64 (Z:Int)] 26)
 have hG4:=hG3.alloc (.cells #[.int .i64 (n:Int),.int .i64 (P:Int),.int .i64 (Z:Int)] 26)
 clear hH3 hG3
 generalize w3.alloc (.cells #[.int .i64 (n:Int),.int .i64 (P:Int),.int .i64 (Z:Int)] 26)=w4 at *
 generalize w3.heap.size=gt at *
 have HSW:=Lib.hid (fun (wx:World) (X F:HL) (hX:Holds wx (X++((gt,(.cells #[.int .i64 (n:Int),.int .i64 (P:Int),.int .i64 (Z:Int)] 26))::F)))=>show wx.cell? ⟨gt,0,none⟩=some (.int .i64 (n:Int))∧wx.cell? ⟨gt,1,none⟩=some (.int .i64 (P:Int))∧wx.cell? ⟨gt,2,none⟩=some (.int .i64 (Z:Int)) from ⟨hX.right.hcell 0,hX.right.hcell 1,hX.right.hcell 2⟩)
 refine Y_begin (fun wx=>wx.cell? ⟨gt,0,none⟩=some (.int .i64 (n:Int))∧wx.cell? ⟨gt,1,none⟩=some (.int .i64 (P:Int))∧wx.cell? ⟨gt,2,none⟩=some (.int .i64 (Z:Int))) 9 (by kernel_rfl) (fun w1 hd=>HSW.out _ [] _ (hH4.dr hd)) (fun w1 hd hs=>?_)
 have hHc:=hH4.dr hd;have hGc:=hG4.trans (Grew.dr hd);clear hd hH4 hG4
 refine Yt 0 25 ?_ rfl hs ?_ ?_
 rotate_left
 ·intro wx;go_simp;try with_reducible rfl
 simp only [pt,sA,sS,sZ]
 refine Yd 1 26 ?_ rfl hs ?_ ?_
 rotate_left
 ·rintro wx ⟨s0,s1,s2⟩;go_simp;try with_reducible rfl
 simp only [pt,sA,sS,sZ]
 refine Yt 2 27 ?_ rfl hs ?_ ?_
 rotate_left
 ·intro wx;go_simp;try with_reducible rfl
 simp only [pt,sA,sS,sZ]
 refine Yd 3 28 ?_ rfl hs ?_ ?_
 rotate_left
 ·rintro wx ⟨s0,s1,s2⟩;go_simp;try with_reducible rfl
 simp only [pt,sA,sS,sZ]
 refine Yt 5 30 ?_ rfl hs ?_ ?_
 rotate_left
 ·intro wx;go_simp;try with_reducible rfl
 simp only [pt,sA,sS,sZ]
 refine Yd 6 31 ?_ rfl hs ?_ ?_
 rotate_left
 ·rintro wx ⟨s0,s1,s2⟩;go_simp;try with_reducible rfl
 simp only [pt,sA,sS,sZ]
 refine Y_two 4 7 rfl rfl (by kernel_rfl) (fun K hK=>?_) (fun K hK=>?_)
 have ⟨s0,s1,s2⟩:=hs
 go_simp;refine (HYN.out _ _ hHc).mono ?_;rintro e wy ⟨vy,Hy,rfl,hy,hHy,hgy⟩;have hGd:=hGc.trans hgy;have HYD:=Lib.hid hy;obtain ⟨yb,rfl⟩:=hy.ptr;clear hHc hGc hgy hy;have hHc:=hHy;have hGc:=hGd;clear hHy hGd
 clear s0 s1 s2
 refine hK _ _ ((by first | exact HSW.out _ _ _ hHc | exact HSW.out _ (_++[_]) _ (by simpa using hHc))) (fun hs2=>?_);clear hK K hs;have hs:=hs2;clear hs2
 refine Y_mid 7 rfl (by kernel_rfl) (fun K hK=>?_)
 have ⟨s0,s1,s2⟩:=hs
 have hHy:=hHc.alloc (.map #[] 0);have hGd:=hGc.alloc (.map #[] 0);go_simp;clear hHc hGc;have hHc:=hHy;have hGc:=hGd;clear hHy hGd
 clear s0 s1 s2
 refine hK _ _ ((by first | exact HSW.out _ [_] _ hHc | exact HSW.out _ (_::_) _ hHc)) (fun hs2=>?_);clear hK K hs;have hs:=hs2;clear hs2
 first | (generalize wy.alloc (.map #[] 0)=wm at *;generalize wy.heap.size=mb at *) | (generalize w1.alloc (.map #[] 0)=wm at *;generalize w1.heap.size=mb at *)
 refine Yt 8 33 ?_ rfl hs ?_ ?_
 rotate_left
 ·intro wx;go_simp;try with_reducible rfl
 simp only [pt,sA,sS,sZ]
 refine Y_late 9 rfl (by kernel_rfl) (by kernel_rfl) (fun K hK=>?_)
 have ⟨s0,s1,s2⟩:=hs
 have hHy:=hHc.alloc (.cells #[.pointer (some ⟨yb,0,none⟩),.pointer (some ⟨cb,0,none⟩),.int .i64 (n:Int),.int .i64 (P:Int),.int .i64 (Z:Int),.map (some mb),.int .i64 (-1)] 96);have hGd:=hGc.alloc (.cells #[.pointer (some ⟨yb,0,none⟩),.pointer (some ⟨cb,0,none⟩),.int .i64 (n:Int),.int .i64 (P:Int),.int .i64 (Z:Int),.map (some mb),.int .i64 (-1)] 96);go_simp;clear hHc hGc;have hHc:=hHy;have hGc:=hGd;clear hHy hGd
 clear s0 s1 s2 hs
 refine hK _ _ ?_;clear hK K
 first | (have hZ:Holds (wm.alloc (.cells #[.pointer (some ⟨yb,0,none⟩),.pointer (some ⟨cb,0,none⟩),.int .i64 (n:Int),.int .i64 (P:Int),.int .i64 (Z:Int),.map (some mb),.int .i64 (-1)] 96)) ((wm.heap.size,(.cells #[.pointer (some ⟨yb,0,none⟩),.pointer (some ⟨cb,0,none⟩),.int .i64 (n:Int),.int .i64 (P:Int),.int .i64 (Z:Int),.map (some mb),.int .i64 (-1)] 96))::(Hy++((mb,.map #[] 0)::((gt,(.cells #[.int .i64 (n:Int),.int .i64 (P:Int),.int .i64 (Z:Int)] 26))::(Hc++Fr))))):=hHc.p;clear hHc;generalize wm.alloc (.cells #[.pointer (some ⟨yb,0,none⟩),.pointer (some ⟨cb,0,none⟩),.int .i64 (n:Int),.int .i64 (P:Int),.int .i64 (Z:Int),.map (some mb),.int .i64 (-1)] 96)=w5 at *;generalize wm.heap.size=b at *) | (have hZ:Holds (wy.alloc (.cells #[.pointer (some ⟨yb,0,none⟩),.pointer (some ⟨cb,0,none⟩),.int .i64 (n:Int),.int .i64 (P:Int),.int .i64 (Z:Int),.map (some mb),.int .i64 (-1)] 96)) ((wy.heap.size,(.cells #[.pointer (some ⟨yb,0,none⟩),.pointer (some ⟨cb,0,none⟩),.int .i64 (n:Int),.int .i64 (P:Int),.int .i64 (Z:Int),.map (some mb),.int .i64 (-1)] 96))::(Hy++((mb,.map #[] 0)::((gt,(.cells #[.int .i64 (n:Int),.int .i64 (P:Int),.int .i64 (Z:Int)] 26))::(Hc++Fr))))):=hHc.p;clear hHc;generalize wy.alloc (.cells #[.pointer (some ⟨yb,0,none⟩),.pointer (some ⟨cb,0,none⟩),.int .i64 (n:Int),.int .i64 (P:Int),.int .i64 (Z:Int),.map (some mb),.int .i64 (-1)] 96)=w5 at *;generalize wy.heap.size=b at *)
 refine Y_late 10 rfl (by kernel_rfl) (by kernel_rfl) (fun K hK=>?_)
 go_simp
 refine hK _ _ ?_;clear hK K
 refine Y_done (by kernel_rfl) ?_ _
 rotate_left
 have ⟨s0,s1,s2⟩:=hs
 have hHy:=hHc.alloc (.map #[] 0);have hGd:=hGc.alloc (.map #[] 0);go_simp;clear hHc hGc;have hHc:=hHy;have hGc:=hGd;clear hHy hGd
 clear s0 s1 s2
 refine hK _ _ ((by first | exact HSW.out _ [_] _ hHc | exact HSW.out _ (_::_) _ hHc)) (fun hs2=>?_);clear hK K hs;have hs:=hs2;clear hs2
 first | (generalize wy.alloc (.map #[] 0)=wm at *;generalize wy.heap.size=mb at *) | (generalize w1.alloc (.map #[] 0)=wm at *;generalize w1.heap.size=mb at *)
 refine Y_mid 4 rfl (by kernel_rfl) (fun K hK=>?_)
 have ⟨s0,s1,s2⟩:=hs
 go_simp;refine (HYN.out _ _ hHc).mono ?_;rintro e wy ⟨vy,Hy,rfl,hy,hHy,hgy⟩;have hGd:=hGc.trans hgy;have HYD:=Lib.hid hy;obtain ⟨yb,rfl⟩:=hy.ptr;clear hHc hGc hgy hy;have hHc:=hHy;have hGc:=hGd;clear hHy hGd
 clear s0 s1 s2
 refine hK _ _ ((by first | exact HSW.out _ _ _ hHc | exact HSW.out _ (_++[_]) _ (by simpa using hHc))) (fun hs2=>?_);clear hK K hs;have hs:=hs2;clear hs2
 refine Yt 8 33 ?_ rfl hs ?_ ?_
 rotate_left
 ·intro wx;go_simp;try with_reducible rfl
 simp only [pt,sA,sS,sZ]
 refine Y_late 9 rfl (by kernel_rfl) (by kernel_rfl) (fun K hK=>?_)
 have ⟨s0,s1,s2⟩:=hs
 have hHy:=hHc.alloc (.cells #[.pointer (some ⟨yb,0,none⟩),.pointer (some ⟨cb,0,none⟩),.int .i64 (n:Int),.int .i64 (P:Int),.int .i64 (Z:Int),.map (some mb),.int .i64 (-1)] 96);have hGd:=hGc.alloc (.cells #[.pointer (some ⟨yb,0,none⟩),.pointer (some ⟨cb,0,none⟩),.int .i64 (n:Int),.int .i64 (P:Int),.int .i64 (Z:Int),.map (some mb),.int .i64 (-1)] 96);go_simp;clear hHc hGc;have hHc:=hHy;have hGc:=hGd;clear hHy hGd
 clear s0 s1 s2 hs
 refine hK _ _ ?_;clear hK K
 first | (have hZ:Holds (wm.alloc (.cells #[.pointer (some ⟨yb,0,none⟩),.pointer (some ⟨cb,0,none⟩),.int .i64 (n:Int),.int .i64 (P:Int),.int .i64 (Z:Int),.map (some mb),.int .i64 (-1)] 96)) ((wm.heap.size,(.cells #[.pointer (some ⟨yb,0,none⟩),.pointer (some ⟨cb,0,none⟩),.int .i64 (n:Int),.int .i64 (P:Int),.int .i64 (Z:Int),.map (some mb),.int .i64 (-1)] 96))::(Hy++((mb,.map #[] 0)::((gt,(.cells #[.int .i64 (n:Int),.int .i64 (P:Int),.int .i64 (Z:Int)] 26))::(Hc++Fr))))):=hHc.p;clear hHc;generalize wm.alloc (.cells #[.pointer (some ⟨yb,0,none⟩),.pointer (some ⟨cb,0,none⟩),.int .i64 (n:Int),.int .i64 (P:Int),.int .i64 (Z:Int),.map (some mb),.int .i64 (-1)] 96)=w5 at *;generalize wm.heap.size=b at *) | (have hZ:Holds (wy.alloc (.cells #[.pointer (some ⟨yb,0,none⟩),.pointer (some ⟨cb,0,none⟩),.int .i64 (n:Int),.int .i64 (P:Int),.int .i64 (Z:Int),.map (some mb),.int .i64 (-1)] 96)) ((wy.heap.size,(.cells #[.pointer (some ⟨yb,0,none⟩),.pointer (some ⟨cb,0,none⟩),.int .i64 (n:Int),.int .i64 (P:Int),.int .i64 (Z:Int),.map (some mb),.int .i64 (-1)] 96))::(Hy++((mb,.map #[] 0)::((gt,(.cells #[.int .i64 (n:Int),.int .i64 (P:Int),.int .i64 (Z:Int)] 26))::(Hc++Fr))))):=hHc.p;clear hHc;generalize wy.alloc (.cells #[.pointer (some ⟨yb,0,none⟩),.pointer (some ⟨cb,0,none⟩),.int .i64 (n:Int),.int .i64 (P:Int),.int .i64 (Z:Int),.map (some mb),.int .i64 (-1)] 96)=w5 at *;generalize wy.heap.size=b at *)
 refine Y_late 10 rfl (by kernel_rfl) (by kernel_rfl) (fun K hK=>?_)
 go_simp
 refine hK _ _ ?_;clear hK K
 refine Y_done (by kernel_rfl) ?_ _
 rotate_left
 all_goals
  have hZ2a:Holds w5 (((b,(.cells #[.pointer (some ⟨yb,0,none⟩),.pointer (some ⟨cb,0,none⟩),.int .i64 (n:Int),.int .i64 (P:Int),.int .i64 (Z:Int),.map (some mb),.int .i64 (-1)] 96))::((mb,.map #[] 0)::Hy))++(Hc++Fr)):=hZ.p
  have hZ2:Holds w5 (((b,stO yb cb mb (SM.fresh n P Z))::((mb,.map #[] 0)::Hy))++(Hc++Fr)):=hZ2a
  have HST:Hid (StAt b cb (SM.fresh n P Z) ((b,stO yb cb mb (SM.fresh n P Z))::((mb,.map #[] 0)::Hy))):=Lib.hid ⟨yb,mb,#[],0,Hy,HYD.out,rfl,Go.MapKept.stamped_empty 0,⟨List.Pairwise.nil,fun p hp=>by simp [SM.fresh] at hp⟩,HPL.out,⟨Int.le_refl _,by show (-1:Int)<(n:Int);omega⟩,by simp [SM.fresh,Ynew],rfl⟩
  have hZ3:Holds w5 ([]++((gt,(.cells #[.int .i64 (n:Int),.int .i64 (P:Int),.int .i64 (Z:Int)] 26))::[])):=hZ.p
  obtain ⟨s0,s1,s2⟩:=HSW.out w5 _ _ hZ3
  have hZ4:=Lib.hid hZ2
  have hGz:=hGc
  clear hZ hZ2a hZ2 hZ3 hGc hmk
  generalize ((b,stO yb cb mb (SM.fresh n P Z))::((mb,.map #[] 0)::Hy))=H0 at *
  go_wp2_with fail
  go_loopw [37] (fun i wr=>NwTo b cb g cap mv n res (SM.fresh n P Z) c w Fr i wr) (fun i _=>n - (intOf i).toNat)
  case atStart=>exact ⟨0,_,c,_,Hc,by omega,rfl,HNW.out.symm,CM.Sim.refl c,SM.Sim.refl _,HST.out,HCH.out,hZ4.out,hGz⟩
  case round =>
   clear s0 s1 s2 hGz
   obtain ⟨k,s',c',H',Hc',hk,rfl,hres,hsim,hsS,hst,hch,hHr,hgr⟩:=hrel
   have HST':=Lib.hid hst
   have HCH':=Lib.hid hch
   have HSIM:=Lib.hid hsim
   have HSS:=Lib.hid hsS
   by_cases hlt:k<n
   ·have hkn:(k:Int)<(n:Int):=by omega
    rw [show n - k=(n - (k+1))+1 by omega,lookAll] at hres
    have HRES:=Lib.hid hres
    have HLK:=Lib.hid (look_any (k:Int) hst hch hHr (by have:=hsim.2.2.2.2.2;have:=HOPS.out;omega) (by rw [hsS.2.1];exact hsS.2.2.2.2 (fun x hx=>by
      have:=List.eq_of_mem_replicate (show x∈List.replicate n ⟨1,0,List.replicate P (false,false)⟩ from hx)
      subst this
      exact ⟨by simp [SM.fresh],Int.le_refl _⟩)) (by omega) (by rw [hsS.1];exact hkn))
    have HLS:=Lib.hid (lookI_sim s' c' (k:Int) (next_bd hch.cok _).2)
    clear hres hsim hsS hst hch hHr
    generalize lookI s' c' (k:Int)=lk at *
    obtain ⟨s3,c3,code⟩:=lk
    dsimp only at *
    go_upto_region 13 with fail
    refine HLK.out.mono ?_
    rintro e w6 ⟨ve,He,H3,Hc3,rfl,he,hs3,hch3,hH3,hg3⟩
    have HS3:=Lib.hid hs3
    have HCH3:=Lib.hid hch3
    have HE3:=Lib.hid he
    have HH3:=Lib.hid hH3
    have hG3:=hgr.trans hg3
    clear hs3 hch3 hH3 hg3 hgr HLK
    by_cases hc:code=0
    ·subst hc
     obtain ⟨rfl,rfl⟩:=isErr0 he
     clear he
     rw [if_neg (by simp)] at HRES
     go_wp2_with fail
     go_roundw
     case rel =>
      exact ⟨k+1,s3,c3,H3,Hc3,by omega,by go_num,HRES.out,(HSIM.out.trans HLS.out.2).mono (by omega),HSS.out.trans HLS.out.1,HS3.out,HCH3.out,HH3.out.p,hG3⟩
     case measure=>simp [intOf];omega
    ·obtain ⟨be,se,rfl,rfl⟩:=isErrP8 he hc
     clear he
     rw [if_pos hc] at HRES
     go_wp2_with fail
     go_ret2
     rw [← HRES.out]
     exact .inr ⟨hc,_,_,Hc3,rfl,HE3.out,HCH3.out,HH3.out.p,hG3⟩
   ·obtain rfl:k=n:=by omega
    rw [Nat.sub_self,lookAll] at hres
    have HRES:=Lib.hid hres
    have HHR:=Lib.hid hHr
    have hkn:¬ (k:Int)<(k:Int):=by omega
    clear hres hsim hsS hst hch hHr
    go_wp2_with fail
    go_ret2
    rw [← HRES.out]
    exact .inl ⟨rfl,b,H',Hc',rfl,HST'.out,HCH'.out,HHR.out,hgr⟩
end Go.Proofs.YtoelopghilbfeaaGreat
