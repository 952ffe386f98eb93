/-
  Lemmas.
-/
import Derived.Test.YtalnifciidblkaaGreatDoorG17
import Derived.Test.YtalnifciidblkaaGreatDoorG00
namespace Go.Proofs.YtalnifciidblkaaGreatDoor
open _root_.Go.Proofs.Tryz
open Go.RowKit
set_option linter.unusedSimpArgs false
set_option linter.unusedVariables false
set_option maxRecDepth 20000
set_option maxHeartbeats 400000
theorem MF:rP Tryz.prog 71 42 1 24 (.slice none 0 0):=rP.mk' (by kernel_rfl) (by kernel_rfl) (by rfl) (by decide)
def Qd(c:List Value)(es:List az)(H:HL):Prop:=∃v,c=[v]∧aP v es H
def cu(a:Int)(n:Nat):Nat:=((IntKind.u64.wrap (a*11400714819323198485))/2^40).toNat%n
def jV(v:Value)(bk:List (List az))(m:Int)(H:HL):Prop:=
 ∃b bv Hm,v=.pointer (some ⟨b,0,none⟩)∧eK Qd 42 1 bv bk Hm∧H=(b,.cells #[bv,.int .i64 m] 173)::Hm
theorem Qd.one_cell{cells:List Value}(h:∀y∈cells,∃c x Hx,Qd c x Hx∧y∈c):∀y∈cells,y.oneCell'=true:=by
 intro y hy;obtain⟨c,x,Hx,⟨v,rfl,hb⟩,Xa⟩:=h y hy;rw[List.mem_singleton.1 Xa];obtain⟨A,q,rfl⟩:=hb.val;rfl
section
variable{v:Value}{bk:List (List az)}{m:Int}{H:HL}
theorem jV.ptr(h:jV v bk m H):∃b,v=.pointer (some ⟨b,0,none⟩):=by obtain⟨b,_,_,h,_⟩:=h;exact⟨b,h⟩
theorem jV.view(h:jV v bk m H):∃b A c,v=.pointer (some ⟨b,0,none⟩)∧bk.length<=c∧c<=maxLen∧
  (∀(w:World) (F:HL),Holds w (H++F)->w.cell? ⟨b,0,none⟩=some (.slice A bk.length c)∧w.cell? ⟨b,1,none⟩=some (.int .i64 m)∧w.frozen? ⟨b,0,none⟩=false∧w.frozen? ⟨b,1,none⟩=false)∧
  (∀(w:World) (F:HL) (m':Int),Holds w (H++F)->∃H',jV v bk m' H'∧Holds (w.setCell ⟨b,1,none⟩ (.int .i64 m')) (H'++F))∧
  (∀(w:World) (F:HL) (v':Value) (bk':List (List az)) (H2:HL),eK Qd 42 1 v' bk' H2->Holds w (H++(H2++F))->∃H',jV v bk' m H'∧Holds (w.setCell ⟨b,0,none⟩ v') (H'++F))∧
  (∀(w:World) (F:HL),Holds w (H++F)->Vj w 4 (.slice A bk.length c) (bk.map fun es=>(es.length,cQ es))):=by
 obtain⟨b,bv,Hm,rfl,hr,rfl⟩:=h;obtain⟨A,c,rfl,hl,hc⟩:=hr.val;refine⟨b,A,c,rfl,hl,hc,fun w F hH=>⟨hH.ae 0,hH.ae 1,hH.ah 0,hH.ah 1⟩,fun w F m' hH=>?_,fun w F v' bk' H2 h2 hH=>?_,fun w F hH=>?_⟩
 ·have gK:Holds w ((b,Obj.cells #[.slice A bk.length c,.int .i64 m] 173)::(Hm++F)):=by simpa using hH
  exact⟨_,⟨b,_,Hm,rfl,hr,rfl⟩,by simpa using gK.ej 1 (.int .i64 m')⟩
 ·have gK:Holds w ((b,Obj.cells #[.slice A bk.length c,.int .i64 m] 173)::(Hm++(H2++F))):=by simpa using hH
  have h3:=gK.ej 0 v';refine⟨_,⟨b,_,H2,rfl,h2,rfl⟩,?_⟩;have h4:Holds (w.setCell ⟨b,0,none⟩ v') ([(b,Obj.cells #[v',.int .i64 m] 173)]++(Hm++(H2++F))):=by simpa using h3
  simpa using h4.DD
 ·have ax:Holds w (Hm++F):=Holds.right (A:=[(b,Obj.cells #[.slice A bk.length c,.int .i64 m] 173)]) (by simpa using hH);obtain⟨kf,H0,Hs,ay,iY,lP,fT,hR,rfl⟩:=hr;have gK:Holds w (H0++(Hs.flatten++F)):=ax.assoc;have h1:kf.flatten.length=kf.length:=by rw[kB kf fT];omega
  refine⟨kf.flatten,by rw[bY];exact ay.reads gK,by rw[bY];omega,fun i e x he hx=>?_⟩;have hi:i<bk.length:=by simpa using(List.getElem?_eq_some_iff.1 hx).1
  have hc:kf[i]?=some (kf[i]'(by omega)):=bF (by omega);have hh:Hs[i]?=some (Hs[i]'(by omega)):=bF (by omega);generalize kf[i]'(by omega)=c at hc;generalize Hs[i]'(by omega)=Hi at hh;obtain⟨ev,rfl,hb⟩:=hR i c bk[i] Hi hc (bF hi) hh;have h2:=dS kf fT i 0 _ hc (by omega);rw[jc,fD,he]at h2;simp only[iK,Option.some.injEq]at h2;subst h2;have iM:=fm Hs i Hi hh;rw[iM]at gK;have h3:Holds w (Hi++((Hs.drop (i+1)).flatten++F)):=by
   have:=gK.right;rw[cE,cE]at this;exact this.right
  have th:x=(bk[i].length,cQ bk[i]):=by
   rw[dW,bF hi]at hx;exact(Option.some.inj hx).symm
  rw[th];exact hb.at_ h3
theorem jV.open_(h:jV v bk m H){i:Nat}{es:List az}(hx:bk[i]?=some es):
  ∃b g cap ev Hi Hr,v=.pointer (some ⟨b,0,none⟩)∧bk.length<=cap∧cap<=maxLen∧i<bk.length∧aP ev es Hi∧
   (∀(w:World) (F:HL),Holds w (Hr++F)->w.cell? ⟨b,0,none⟩=some (.slice (some ⟨g,0,none⟩) bk.length cap)∧w.cell? ⟨b,1,none⟩=some (.int .i64 m)∧w.cell? ⟨g,i,none⟩=some ev∧w.frozen? ⟨g,i,none⟩=false∧w.frozen? ⟨b,1,none⟩=false∧g<w.heap.size∧b<w.heap.size)∧
   (∀(w:World) (F:HL),Holds w (H++F)->Holds w (Hi++(Hr++F)))∧
   (∀(w:World) (F:HL) (nk:List az) (nC:HL),aP ev nk nC->Holds w (nC++(Hr++F))->∃H',jV v (bk.set i nk) m H'∧Holds w (H'++F))∧
   (∀(w:World) (F:HL) (ZI:Value) (nk:List az) (nC:HL),aP ZI nk nC->Holds w (nC++(Hr++F))->∃H',jV v (bk.set i nk) m H'∧Holds (w.setCell ⟨g,i,none⟩ ZI) (H'++F)):=by
 obtain⟨b,bv,Hm,rfl,hr,rfl⟩:=h;obtain⟨g,cap,c,Hi,Hr,rfl,ff,gT,hk,bm,⟨ev,rfl,ay⟩,ae,fg,qi,bz⟩:=hr.sC hx;have aaL:∀(w:World) (F A:HL),Holds w (A++(((b,Obj.cells #[.slice (some ⟨g,0,none⟩) bk.length cap,.int .i64 m] 173)::Hr)++F))->Holds w (A++(Hr++((b,.cells #[.slice (some ⟨g,0,none⟩) bk.length cap,.int .i64 m] 173)::F))):=by
  intro w F A hH;have:=Holds.Z2 (A:=A) (B:=[(b,Obj.cells #[.slice (some ⟨g,0,none⟩) bk.length cap,.int .i64 m] 173)]) (C:=Hr) (D:=F) (by simpa using hH);simpa using this
 have aal:∀(w:World) (F A:HL),Holds w (A++((b,.cells #[.slice (some ⟨g,0,none⟩) bk.length cap,.int .i64 m] 173)::F))->Holds w (((b,Obj.cells #[.slice (some ⟨g,0,none⟩) bk.length cap,.int .i64 m] 173)::A)++F):=by
  intro w F A hH;have:=Holds.swap (A:=A) (B:=[(b,Obj.cells #[.slice (some ⟨g,0,none⟩) bk.length cap,.int .i64 m] 173)]) (C:=F) (by simpa using hH);simpa using this
 refine⟨b,g,cap,ev,Hi,(b,.cells #[.slice (some ⟨g,0,none⟩) bk.length cap,.int .i64 m] 173)::Hr,rfl,ff,gT,hk,ay,?_,?_,?_,?_⟩
 ·intro w F hH;have h1:=aaL w F [] (by simpa using hH);obtain⟨hg,hj⟩:=ae w _ (by simpa using h1);obtain⟨e1,e2⟩:=hj 0 (by omega);rw[jc,fD]at e1 e2;exact⟨hH.ae 0,hH.ae 1,by simpa using e1,e2,hH.ah 1,hg,hH.aG⟩
 ·intro w F hH;have h1:=fg w ((b,.cells #[.slice (some ⟨g,0,none⟩) bk.length cap,.int .i64 m] 173)::F) (by
   have:=Holds.swap (A:=[(b,Obj.cells #[.slice (some ⟨g,0,none⟩) bk.length cap,.int .i64 m] 173)]) (B:=Hm) (C:=F) (by simpa using hH);simpa using this)
  have:=Holds.Z2 (A:=Hi) (B:=Hr) (C:=[(b,Obj.cells #[.slice (some ⟨g,0,none⟩) bk.length cap,.int .i64 m] 173)]) (D:=F) (by simpa using h1);simpa using this
 ·intro w F nk nC he hH;obtain⟨H',h1,h2⟩:=qi w _ nk nC ⟨ev,rfl,he⟩ (aaL w F nC hH);exact⟨_,⟨b,_,H',rfl,by simpa using h1,rfl⟩,aal w F H' h2⟩
 ·intro w F ZI nk nC he hH;obtain⟨H',h1,h2⟩:=bz w _ 0 ZI nk nC (by omega) ⟨ZI,rfl,he⟩ (aaL w F nC hH);rw[jc,fD]at h2;exact⟨_,⟨b,_,H',rfl,by simpa using h1,rfl⟩,aal _ F H' h2⟩
end
theorem wO(a:Int)(n:Nat)(h:0<n):cu a n<n:=Nat.mod_lt _ h
theorem Ng(a:Int)(n:Nat)(h:0<n)(hn:n<=1000000):((IntKind.u64.wrap (a*11400714819323198485))/1099511627776).tmod (n:Int)=(cu a n:Int):=by
 unfold cu;have h0:0<=IntKind.u64.wrap (a*11400714819323198485):=by rw[show IntKind.u64.wrap (a*11400714819323198485)=(a*11400714819323198485)%18446744073709551616 from rfl];omega
 have h1:0<=(IntKind.u64.wrap (a*11400714819323198485))/1099511627776:=Int.ediv_nonneg h0 (by decide);rw[Int.tmod_eq_emod_of_nonneg h1,show(2:Int)^40=1099511627776 by decide,Int.natCast_emod,Int.toNat_of_nonneg h1]
theorem nU(b g n cap:Nat)(a:Int)(w:World)(h:w.cell? ⟨b,0,none⟩=some (.slice (some ⟨g,0,none⟩) n cap))(hn:0<n)(hnm:n<=1000000):
  Calls Tryz.prog 123 #[.pointer (some ⟨b,0,none⟩),.int .u64 a] w (zQ w (.pointer (some ⟨g,cu a n,none⟩))):=by
 have h1:=wO a n hn;have HT:=aa (Ng a n hn hnm);have hw:IntKind.u64.wrap (n:Int)=n:=by rw[show IntKind.u64.wrap (n:Int)=(n:Int)%18446744073709551616 from rfl];omega
 have uZ:¬(n:Int)=0:=by omega
 go_enter func123,ntmps123;go_upto_region 1 with fail
 refine aF (fun wx=>True∧wx.cell? ⟨b,0,none⟩=some (.slice (some ⟨g,0,none⟩) n cap)) 16 (by kernel_rfl) (fun w1 hd=>by obtain⟨q,rfl⟩:=hd;exact⟨trivial,h⟩) (fun w1 hd hs=>?_);obtain⟨nq,rfl⟩:=hd;refine dY 0 1 2 3 ?_;refine dY 4 5 6 7 ?_;refine dY 8 9 10 11 ?_;refine Zm 12 fun K hK=>?_;go_simp;refine hK _ _ (hs) (fun _=>?_);clear hK K hs;rename_i hs;refine Zt 13 18 (.int .u64 (cu a n:Nat)) rfl hs ?_ ?_
 ·intro wx hx;obtain⟨_,s1⟩:=hx;go_simp;rw[if_neg (by omega),HT.o]
 simp only[pt,sA,sS,sZ];refine qL 14 15 ?_;refine Ze ?_;go_wp2_with fail
 go_ret;exact⟨rfl,_,rfl⟩
theorem Ef{zs:Array Value}{n:Nat}(hp:0<zs.size){x:Value}(hx:x∈(Builtin.zeroCells zs n).toList):x∈zs.toList:=by
 unfold Builtin.zeroCells at hx;simp only[Array.toList_map,List.mem_map]at hx;obtain⟨i,_,rfl⟩:=hx;rw[getElem!_pos zs (i%zs.size) (Nat.mod_lt _ hp)];exact Array.getElem_mem_toList _
theorem Nh{P:Program}{t e:TypeId}{size bytes:Nat}{z:Value}(hT:rP P t e size bytes z)(h1:∀x∈z.cells.toList,x.oneCell'=true){w:World}{g:Nat}{cur:Array Value}{fz:Nat×Nat}{Fr:HL}(hH:Holds w ((g,.cells cur e fz)::Fr))(hf:Bk fz cur.size)
  (o n c:Nat)(hn:0<n)(pM:(o+n)*size<=cur.size):∃Af:Array Value,Af.size=cur.size∧Af.toList.take (o*size)=cur.toList.take (o*size)∧Holds (w.setRow g Af) ((g,.cells Af e fz)::Fr)∧
   ∀ty,(Builtin.clear_ #[t] ty #[.slice (some ⟨g,o*size,none⟩) n c]).run P w=.ok (.tuple #[]) (w.setRow g Af):=by
 obtain⟨i,hi,hz,fT,_⟩:=hT.info;have S4:(Builtin.zeroCells z.cells n).toList.length=n*size:=by unfold Builtin.zeroCells;simp[hT.cells]
 have aam:o*size+0+(Builtin.zeroCells z.cells n).toList.length<=cur.size:=by rw[S4,fD,<-nH];exact pM
 have bD:=iW (P:=P) g (o*size) e fz (Builtin.zeroCells z.cells n).toList 0 cur w (hH.get (by simp)) hf aam
  (fun x hx=>h1 x (Ef (by rw[hT.cells];exact hT.pos) hx))
 rw[fD]at aam;simp only[fD]at bD;generalize hZ:(Builtin.zeroCells z.cells n).toList=ZS at*;obtain⟨Af,mM⟩:∃Af,Af=(cur.toList.take (o*size)++ZS++cur.toList.drop (o*size+ZS.length)).toArray:=⟨_,rfl⟩;rw[<-mM]at bD;refine⟨Af,?_,?_,Holds.pw hH _,fun ty=>?_⟩
 ·subst mM;simp only[vR,aY,dG,dA,vP];omega
 ·subst mM;show((cur.toList.take (o*size)++ZS)++cur.toList.drop (o*size+ZS.length)).take (o*size)=_;rw[cE,BK (by simp;omega),List.take_take,Nat.min_self]
 ·obtain⟨m,rfl⟩:∃m,n=m+1:=⟨n-1,by omega⟩;simp[Builtin.clear_,run_underlying hT.under,zeroValue,typeInfo,hi,hz,hZ,bD]
theorem CN(n:Nat)(hn:n<=1000000):∃cs:Array Value,(∀g,eK Qd 42 1 (.slice (some ⟨g,0,none⟩) n n) (List.replicate n []) [(g,.cells cs 42)])∧
  ∀w:World,(Instr.makeSlice 71 (.int .i64 (n:Int)) (.int .i64 (n:Int))).run Tryz.prog w=.ok (.slice (some ⟨w.heap.size,0,none⟩) n n) (w.alloc (.cells cs 42)):=by
 have hl:(madeCells #[.slice none 0 0] n).toList=List.replicate n (Value.slice none 0 0):=by
  apply aaN
  ·simp[madeCells]
  ·intro i h1 h2;simp[madeCells,Nat.mod_one]
 refine⟨madeCells #[.slice none 0 0] n,fun g=>?_,fun w=>?_⟩
 ·refine⟨List.replicate n [.slice none 0 0],[(g,.cells (madeCells #[.slice none 0 0] n) 42)],List.replicate n [],?_,by simp,by simp,?_,?_,by simp⟩
  ·have h1:=au.made (e:=42) (size:=1) g n (madeCells #[.slice none 0 0] n) (by simp[madeCells]) (by simp[maxLen];omega);rw[hl]at h1;simpa using h1
  ·intro c hc;rw[ow hc];rfl
  ·intro i c x h h1 h2 h3;have hc:=ow (gD h1);have hx:=ow (gD h2);have hh:=ow (gD h3);subst hc hx hh;exact⟨_,rfl,aP.nil⟩
 ·have:=qt (P:=Tryz.prog) MF n n (aN _) (by omega) (by simp[maxLen];omega) w;rw[jc]at this;exact this
theorem Rm(w:World)(Fr:HL)(hH:Holds w Fr):Calls Tryz.prog 94 #[] w (cB (fun v H=>jV v (List.replicate 16 []) 0 H) w Fr):=by
 obtain⟨cs,ay,yU⟩:=CN 16 (by omega);have HR:=aa ay;clear ay;simp only[Int.cast_ofNat_Int]at yU;go_enter func94,ntmps94;go_wp2_with fail
 go_ret;refine⟨_,_,rfl,⟨_,_,_,rfl,HR.o w.heap.size,rfl⟩,?_,((af.refl w).alloc _).alloc _⟩;have h1:=(hH.alloc (.cells cs 42)).alloc (.cells #[.slice (some ⟨w.heap.size,0,none⟩) 16 16,.int .i64 0] 173);simpa using h1
theorem Rn(v:Value)(bk:List (List az))(m:Int)(H Fr:HL)(w:World)(hv:jV v bk m H)(hH:Holds w (H++Fr)):
  Calls Tryz.prog 99 #[v] w (zQ w (.int .i64 m)):=by
 obtain⟨b,A,c,rfl,_,_,hr,_⟩:=hv.view;obtain⟨h0,h1,_,_⟩:=hr w Fr hH;clear hr hv;go_enter func99,ntmps99;go_wp2_with fail
 go_ret;exact⟨rfl,0,rfl⟩
theorem KS(v:Value)(bs:List az)(w:World)(Fr:HL)(hb:eC w v bs)(hH:Holds w Fr)(kJ:bs.length<=1000000):
  Calls Tryz.prog 170 #[v] w (cB (fun v H=>aP v bs H) w Fr):=by
 have h1:∀y∈cQ bs,y.oneCell'=true:=gH;obtain⟨A,c,rfl⟩:=(show∃A c,v=.slice A bs.length c from by obtain⟨_,A,c,hv,_⟩:=hb;exact⟨A,c,hv⟩);have HB:=aa hb;have H1:=aa h1;clear h1;cases A with
 |none=>
  obtain⟨_,A,c',hv,ff,gT,h0⟩:=hb;injection hv with gM mg kS;subst gM kS;have hz:bs.length=0:=by
   rcases nG bs.length with h|h
   ·exact h
   ·obtain⟨b,o,h,_⟩:=h0 h;cases h
  obtain rfl:bs=[]:=jW hz;have k1:∀w:World,(binOp .eql 42 (.slice none 0 c) (.slice none 0 0)).run Tryz.prog w=.ok (.bool true) w:=fun w=>Lib.run_eql_slice_nil w _ _ _ _ _ _ _ ix.under;clear h0 hz ff;go_enter func170,ntmps170;go_wp2
  go_ret;exact⟨_,[],rfl,aP.nil,hH,af.refl w⟩
 |some a=>
  have k1:∀w:World,(binOp .eql 42 (.slice (some a) bs.length c) (.slice none 0 0)).run Tryz.prog w=.ok (.bool false) w:=fun w=>Lib.run_eql_slice_nil w _ _ _ _ _ _ _ ix.under;clear hb;go_enter func170,ntmps170;go_wp2_with (at_builtin;refine al ix (by rfl) (.tmp 5) (.tmp 6) (by rfl) (by rfl) (by rfl) (au.UB (size:=4) (e:=24) w.heap.size 0 #[] (by rfl) (by simp[maxLen])) ((hH.alloc (.cells #[] 24))) (HB.o.alloc _) H1.o (by simp[maxLen];omega) (by omega) ?_;intro A' c' w' H' ay aD aX)
  go_ret;simp only[fp,jS]at ay;exact⟨_,H',rfl,ay,aD,((af.refl w).alloc _).trans aX⟩
end Go.Proofs.YtalnifciidblkaaGreatDoor
