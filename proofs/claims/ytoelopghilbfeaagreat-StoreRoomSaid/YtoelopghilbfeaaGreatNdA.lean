/-
  Texts put together: YtoelopghilbfeaaGreatErr, YtoelopghilbfeaaGreatRep, YtoelopghilbfeaaGreatMi, YtoelopghilbfeaaGreatNd, YtoelopghilbfeaaGreatNd2, YtoelopghilbfeaaGreatNd5, YtoelopghilbfeaaGreatNd6, YtoelopghilbfeaaGreatNd3.
-/
import Derived.Test.YtoelopghilbfeaaGreatBase
import Derived.Lib.SlBuf
import Derived.Lib.MakeNoZero
import Derived.Laws.Externs
import Derived.Deep.DeepCutAuto
namespace Go.Proofs.YtoelopghilbfeaaGreat
open Go.RowKit
set_option linter.unusedSimpArgs false
set_option linter.unusedVariables false
theorem ReadsAt.one' {w:World} {x:Value} {g:Nat} {e:TypeId} (h:g=w.heap.size):ReadsAt (w.alloc (.cells #[x] e)) 1 (.slice (some ⟨g,0,none⟩) 1 1) 1 [x]:=by subst h;exact ReadsAt.one
def IsErr (v:Value) (c:Int) (H:HL):Prop :=
 (c=0∧v=.nilIface∧H=[])∨(c≠0∧∃ b s,v=.iface 117 (.pointer (some ⟨b,0,none⟩))∧H=[(b,.cells #[.int .i64 c,.string s] 119)])
theorem IsErr.none:IsErr .nilIface 0 []:=.inl ⟨rfl,rfl,rfl⟩
theorem err_eq (x:Value) (w:World):(binOp .eql 30 (.iface 117 x) .nilIface).run Tryz.prog w=.ok (.bool false) w:=run_eql_held_nil w _ _ _ (by kernel_rfl)
theorem err_ne (x:Value) (w:World):(binOp .neq 30 (.iface 117 x) .nilIface).run Tryz.prog w=.ok (.bool true) w:=run_neq_held_nil w _ _ _ (by kernel_rfl)
theorem err_as (a:Option Addr) (w:World):(Instr.typeAssert (.iface 117 (.pointer a)) 30 117 true).run Tryz.prog w=.ok (.tuple #[.pointer a,.bool true]) w:=by kernel_rfl
theorem nil_eq (w:World):(binOp .eql 30 .nilIface .nilIface).run Tryz.prog w=.ok (.bool true) w:=by kernel_rfl
theorem nil_ne (w:World):(binOp .neq 30 .nilIface .nilIface).run Tryz.prog w=.ok (.bool false) w:=by kernel_rfl
set_option maxRecDepth 20000 in
theorem code_some (b:Nat) (c:Int) (w:World) (h:w.cell? ⟨b,0,none⟩=some (.int .i64 c)) :
  Calls Tryz.prog 50 #[.iface 117 (.pointer (some ⟨b,0,none⟩))] w fun e w'=>e=.returned (.int .i64 c)∧w=w':=by
 have k1:=err_eq
 have k2:=err_as
 go_enter Tryz.func50,Tryz.ntmps50
 go_wp2
 go_ret
 exact ⟨rfl,rfl⟩
set_option maxRecDepth 20000 in
theorem num_any (v:Value) (c:Int) (H Fr:HL) (w:World) (h:IsErr v c H) (hH:Holds w (H++Fr)) (h0:0≤c):
  Calls Tryz.prog 21 #[v] w fun e w'=>e=.returned (.int .i64 c)∧w=w':=by
 rcases h with ⟨rfl,rfl,rfl⟩ | ⟨hc,b,s,rfl,rfl⟩
 ·have k1:=nil_eq
  go_enter Tryz.func21,Tryz.ntmps21
  go_wp2
  go_ret
  exact ⟨rfl,rfl⟩
 ·have k1:=err_eq
  have c0:w.cell? ⟨b,0,none⟩=some (.int .i64 c):=hH.cell (List.mem_cons_self) 0
  have H0:=Lib.hid (code_some b c w c0);clear c0
  have h1:0<c:=by omega
  clear hc h0
  go_enter Tryz.func21,Tryz.ntmps21
  go_wp2_with (go_at_call 50;refine H0.out.mono ?_;rintro e w' ⟨rfl,rfl⟩)
  go_ret
  exact ⟨rfl,rfl⟩
def RetErr (c:Int) (w:World) (Fr:HL) (e:Ending) (w':World):Prop:=∃ v H,e=.returned v∧IsErr v c H∧Holds w' (H++Fr)∧Grew w w'
def NumsAt (w:World) (v:Value) (zs:List Int):Prop:=ReadsAt w 1 v zs.length (zs.map (Value.int .i64))
def IsNums (v:Value) (zs:List Int) (H:HL):Prop:=IsRow 3 1 v zs.length (zs.map (Value.int .i64)) H
theorem IsNums.at_ {v:Value} {zs:List Int} {H Fr:HL} {w:World} (h:IsNums v zs H) (hH:Holds w (H++Fr)):NumsAt w v zs:=IsRow.reads h hH
theorem IsNums.val {v:Value} {zs:List Int} {H:HL} (h:IsNums v zs H):∃ A c,v=.slice A zs.length c:=IsRow.val h
def SameToI (xs ys:List Int) (w:World) (v:Value) (wr:World):Prop:=∃ k m:Nat,k≤xs.length∧v=.int .i64 k∧xs.take k=ys.take k∧wr=w.drewN m
set_option maxHeartbeats 400000 in
theorem sameI_any (va vb:Value) (xs ys:List Int) (w:World) (ha:NumsAt w va xs) (hb:NumsAt w vb ys) :
  Calls Tryz.prog 102 #[va,vb] w (RetQ w (.bool (decide (xs=ys)))):=by
 have hna:=ReadsAt.le ha
 have hnb:=ReadsAt.le hb
 unfold maxLen at hna hnb
 obtain ⟨_,A,ca,rfl,_,_,ha⟩:=ha
 obtain ⟨_,B,cb,rfl,_,_,hb⟩:=hb
 have Ha:=Lib.hid ha
 have Hb:=Lib.hid hb
 clear ha hb
 by_cases hl:xs.length=ys.length
 ·have hl0:((xs.length:Int) != (ys.length:Int))=false:=by rw [hl];simp
  have hl1:(xs.length != ys.length)=false:=by rw [hl];simp
  have HL:=Lib.hid hl
  clear hl
  go_enter Tryz.func102,Tryz.ntmps102
  go_wp2
  go_loopw [5] (fun v wr=>SameToI xs ys w v wr) (fun v _=>xs.length - (intOf v).toNat)
  case atStart=>exact ⟨0,0,by omega,rfl,by simp,rfl⟩
  case round =>
   obtain ⟨k,m,hk,rfl,hrel,rfl⟩:=hrel
   have HR:=Lib.hid hrel;clear hrel
   by_cases hlt:k<xs.length
   ·have hlt2:k<ys.length:=by have:=HL.out;omega
    obtain ⟨b1,o1,rfl,h1⟩:=Ha.out (by omega)
    obtain ⟨b2,o2,rfl,h2⟩:=Hb.out (by omega)
    have c1:w.cell? ⟨b1,o1+k,none⟩=some (.int .i64 xs[k]):=h1 k _ (by simp [hlt])
    have c2:w.cell? ⟨b2,o2+k,none⟩=some (.int .i64 ys[k]):=h2 k _ (by simp [hlt2])
    clear h1 h2
    by_cases hx:xs[k]=ys[k]
    ·have e1:(xs[k] != ys[k])=false:=by rw [hx];simp
     have HX:=Lib.hid hx;clear hx
     go_wp2
     go_quiet (fail)
     go_wp2
     go_roundw
     case rel=>exact ⟨k+1,m+nq,by omega,by go_num,by rw [List.take_succ_eq_append_getElem hlt,List.take_succ_eq_append_getElem hlt2,HR.out,HX.out],rfl⟩
     case measure=>simp [intOf];omega
    ·have e1:(xs[k] != ys[k])=true:=by simpa using hx
     have HX:=Lib.hid hx;clear hx
     go_wp2
     go_quiet (fail)
     go_wp2
     go_ret
     exact ⟨ret_b (b:=false) (decide_eq_false fun e=>by subst e;exact HX.out rfl).symm,m+nq,drewN2 _ _ _⟩
   ·go_wp2
    go_ret
    have h1:=HR.out
    have:=HL.out
    rw [List.take_of_length_le (by omega),List.take_of_length_le (by omega)] at h1
    exact ⟨ret_b (b:=true) (decide_eq_true h1).symm,m,rfl⟩
 ·have hl0:((xs.length:Int) != (ys.length:Int))=true:=by simp;omega
  have hl1:(xs.length != ys.length)=true:=by simpa using hl
  go_enter Tryz.func102,Tryz.ntmps102
  go_wp2
  go_ret
  exact ⟨ret_b (b:=false) (decide_eq_false fun e=>by subst e;exact hl rfl).symm,0,rfl⟩
set_option maxRecDepth 20000 in
theorem clone_any (v:Value) (bs:List UInt8) (w:World) (Fr:HL) (hb:BytesAt w v bs) (hH:Holds w Fr) (hsm:bs.length≤1000000) :
  Calls Tryz.prog 80 #[v] w (RetNew (fun v H=>IsBytes v bs H) w Fr):=by
 have h1:∀ y∈bs.map cellB,y.oneCell'=true:=by intro y hy;obtain ⟨x,_,rfl⟩:=List.mem_map.1 hy;rfl
 obtain ⟨A,c,rfl⟩:=hb.val
 have HB:=Lib.hid hb
 have H1:=Lib.hid h1;clear h1
 cases A with
 |none =>
  obtain ⟨_,A,c',hv,hc1,hc2,h0⟩:=hb
  injection hv with hv1 hv2 hv3
  subst hv1 hv3
  have hz:bs.length=0:=by
   rcases Nat.eq_zero_or_pos bs.length with h | h
   ·exact h
   ·obtain ⟨b,o,h,_⟩:=h0 h;cases h
  obtain rfl:bs=[]:=List.eq_nil_of_length_eq_zero hz
  have k1:∀ w:World,(binOp .eql 38 (.slice none 0 c) (.slice none 0 0)).run Tryz.prog w=.ok (.bool true) w:=fun w=>Lib.run_eql_slice_nil w _ _ _ _ _ _ _ tBytes.under
  clear h0 hz hc1
  go_enter Tryz.func80,Tryz.ntmps80
  go_wp2
  go_ret
  exact ⟨_,[],rfl,IsRow.nil _ _,hH,Grew.refl w⟩
 |some a =>
  have k1:∀ w:World,(binOp .eql 38 (.slice (some a) bs.length c) (.slice none 0 0)).run Tryz.prog w=.ok (.bool false) w:=fun w=>Lib.run_eql_slice_nil w _ _ _ _ _ _ _ tBytes.under
  clear hb
  go_enter Tryz.func80,Tryz.ntmps80
  go_wp2_with (at_builtin;refine wpList_append_T tBytes (by rfl) (.tmp 5) (.tmp 6) (by rfl) (by rfl) (by rfl) (IsRow.made0 (size:=1) (e:=5) w.heap.size 0 #[] (by rfl) (by simp [maxLen])) ((hH.alloc (.cells #[] 5))) (HB.out.alloc _) H1.out (by simp [maxLen];omega) (by omega) ?_;intro A' c' w' H' hrow hH3 hg2)
  go_ret
  simp only [Nat.zero_add,List.nil_append] at hrow
  exact ⟨_,H',rfl,hrow,hH3,((Grew.refl w).alloc _).trans hg2⟩
end Go.Proofs.YtoelopghilbfeaaGreat
namespace Go.Proofs.YtoelopghilbfeaaGreat
open Go.RowKit
set_option linter.unusedSimpArgs false
set_option linter.unusedVariables false
section
variable {P:Program} {w:World}
theorem run_copy_fz (dT sT ty elem:TypeId) (hu:P.underlying dT=some (.slice elem)) (hsz:(P.info? elem).map (·.size)=some 1) {g off dLen dCap:Nat} {cur:Array Value} {t:TypeId} {fz:Nat × Nat}
  (hg:w.heap[g]?=some (.cells cur t fz)) (hf:okfz fz cur.size) {v:Value} {m:Nat} {cs:List Value} (hsrc:ReadsAt w 1 v m cs) (hfit:off+min m dLen≤cur.size) (h1:∀ x∈cs,x.oneCell'=true) :
  (Builtin.copy_ #[dT,sT] ty #[.slice (some ⟨g,off,none⟩) dLen dCap,v]).run P w =
   .ok (goInt ((min m dLen:Nat):Int)) (w.setRow g (cur.toList.take off++cs.take (min m dLen)++cur.toList.drop (off+min m dLen)).toArray):=by
 obtain ⟨hl,A,c,rfl,hmc,hcm,hsr⟩:=hsrc
 obtain ⟨i,hi,hi1⟩:∃ i,P.info? elem=some i∧i.size=1:=by
  cases h:P.info? elem with
  |none=>rw [h] at hsz;cases hsz
  |some i=>rw [h] at hsz;exact ⟨i,rfl,by simpa using hsz⟩
 have hln:(cs.take (min m dLen)).length=min m dLen:=by rw [List.length_take,hl];omega
 have hst:=storeCells_fz (P:=P) g off t fz (cs.take (min m dLen)) 0 cur w hg hf (by rw [hln];omega) (fun x hx=>h1 x (List.mem_of_mem_take hx))
 rw [hln,Nat.add_zero] at hst
 by_cases h0:min m dLen=0
 ·rw [h0] at hst ⊢
  have hz:(Nat.min m dLen)=0:=h0
  simp only [List.take_zero] at hst
  cases A with
  |none=>simp [Builtin.copy_,run_underlying hu,sizeOf,typeInfo,hi,hi1,Builtin.lenOf,hz,Builtin.firstCells,hst] <;> (try (congr 1;omega))
  |some a=>simp [Builtin.copy_,run_underlying hu,sizeOf,typeInfo,hi,hi1,Builtin.lenOf,hz,Builtin.firstCells,loadCells,loadCellsFrom,hst] <;> (try (congr 1;omega))
 ·obtain ⟨b,o,rfl,hcell⟩:=hsr (by omega)
  have hfc:=run_firstCells_some (P:=P) (w:=w) 1 (min m dLen) ⟨b,o,none⟩ m c (cs.take (min m dLen)) (by rw [hln];omega) (fun j u hu=>by
   rw [addr_add_lit]
   rw [List.getElem?_take] at hu
   split at hu
   ·exact hcell j u hu
   ·cases hu)
  have hz:(Nat.min m dLen)=min m dLen:=rfl
  simp [Builtin.copy_,run_underlying hu,sizeOf,typeInfo,hi,hi1,Builtin.lenOf,hz,hfc,hst] <;> (try (congr 1;omega))
end
theorem wrap_small (z:Int) (h0:-9223372036854775808≤z) (h1:z≤9223372036854775807):IntKind.i64.wrap z=z:=by
 have e1:(2 ^ IntKind.i64.bits:Int)=18446744073709551616:=by decide
 have e2:(2 ^ (IntKind.i64.bits - 1):Int)=9223372036854775808:=by decide
 have e3:IntKind.i64.signed=true:=rfl
 unfold IntKind.wrap
 simp only [e1,e2,e3,Bool.true_and,decide_eq_true_eq]
 split <;> omega
theorem step_copy {P:Program} {ops:Array Oper} {o:Oper} {a:Act} {w:World} {K:Act→World→Prop} {Q:Exit→Act→World→Prop} {E:Prop} (hgd:o.guard=none) (d s:Operand) (t t':TypeId) (ds:Option Nat) (hds:o.dst=ds)
  (ho:o.op=.call { callee:=.builtin .copy,args:=#[d,s],argTypes:=#[t,t'] }) (v u:Value) (hd:a.eval d=v) (hs:a.eval s=u) {v':Value} {w':World}
  (hr:(Builtin.copy_ #[t,t'] o.type #[v,u]).run P w=.ok v' w') (h:K (a.put ds v') w') :
  if Region.wanted o (yielded ops a.tmps)=true then Oper.wp P o a w K Q else E:=by
 have hw:Region.wanted o (yielded ops a.tmps)=true:=by simp [Region.wanted,hgd]
 rw [if_pos hw]
 subst hds
 exact Lib.wp_copy_run w d s t t' ho v u hd hs hr h
set_option maxRecDepth 20000 in
theorem mul64_one (n:Nat) (hn:n≤1000000) (w:World):Calls Tryz.prog 121 #[.int .u64 1,.int .u64 (n:Int)] w fun e w'=>e=.returned (.tuple #[.int .u64 0,.int .u64 (n:Int)])∧w=w':=by
 have b1:bits BinOp.and .u64 1 4294967295=1:=by decide
 have b2:bits BinOp.and .u64 (n:Int) 4294967295=(n:Int):=by
  unfold bits
  simp
  rw [show (4294967295 % 2 ^ IntKind.u64.bits:Nat)=2 ^ 32 - 1 by decide,Nat.and_two_pow_sub_one_eq_mod]
  rw [show (2 ^ IntKind.u64.bits:Nat)=18446744073709551616 by decide,show (2 ^ 32:Nat)=4294967296 by decide,Nat.mod_eq_of_lt (show n<18446744073709551616 by omega),Nat.mod_eq_of_lt (show n<4294967296 by omega)]
  have hw:∀ z:Int,IntKind.u64.wrap z=z % 18446744073709551616:=fun z=>rfl
  rw [hw];omega
 have d0:(n:Int) / 4294967296=0:=by omega
 go_enter Tryz.func121,Tryz.ntmps121
 go_wp2_with fail
 go_ret2
 refine ⟨?_,rfl⟩
 simp
 decide
set_option maxRecDepth 20000 in
theorem mul_one (n:Nat) (hn:n≤1000000) (w:World):Calls Tryz.prog 105 #[.int .u64 1,.int .u64 (n:Int)] w fun e w'=>e=.returned (.tuple #[.int .u64 0,.int .u64 (n:Int)])∧w=w':=by
 have HM:=Lib.hid (mul64_one n hn w)
 go_enter Tryz.func105,Tryz.ntmps105
 go_wp2_with fail
 refine HM.out.mono ?_
 rintro e wx ⟨rfl,rfl⟩
 go_wp2_with fail
 go_ret2
 exact ⟨rfl,rfl⟩
def RepTo (g n:Nat) (x:UInt8) (w:World) (Fr:HL) (iv:Value) (wr:World):Prop :=
 ∃ (j:Nat) (cur:Array Value),1≤j∧j≤n∧iv=.int .i64 j∧n≤cur.size∧cur.toList.take j=(List.replicate j x).map cellB∧cur.size≤maxLen∧Holds wr ((g,.cells cur 5)::Fr)∧Grew w wr
set_option maxRecDepth 20000 in
set_option maxHeartbeats 2000000 in
theorem repeat_any (v:Value) (x:UInt8) (n:Nat) (w:World) (Fr:HL) (hb:BytesAt w v [x]) (hH:Holds w Fr) (hn1:1≤n) (hn:n≤8192) :
  Calls Tryz.prog 71 #[v,.int .i64 (n:Int)] w (RetNew (fun v H=>IsBytes v (List.replicate n x) H) w Fr):=by
 obtain ⟨A,c,rfl⟩:=hb.val
 simp only [List.length_singleton] at hb ⊢
 have HM:=Lib.hid (fun (wx:World)=>mul_one n (by omega) wx)
 obtain ⟨cs,hrunM,hle,hlm⟩:=Lib.run_makeNoZero (P:=Tryz.prog) w #[3] 38 5 tBytes.under n (by omega)
 have hcall:(callFunc 106 #[.int .i64 (n:Int)]).run Tryz.prog w=.ok (.value (.slice (some ⟨w.heap.size,0,none⟩) n cs.size)) ((w.alloc (.cells cs 5)).drewN 2):=by
  rw [run_callFunc_extern Tryz.func106 (by kernel_rfl) (by kernel_rfl) (by kernel_rfl) (e:=Extern.BytealgMakeNoZero.makeNoZero #[3] #[38]) (by kernel_rfl),hrunM]
  rfl
 clear hrunM
 have hcm:cs.size≤maxLen:=hlm (by simp [maxLen];omega)
 unfold maxLen at hcm
 have hH1:=(hH.alloc (.cells cs 5)).drewN 2
 have hG1:=((Grew.refl w).alloc (.cells cs 5)).drewN 2
 have hB1:ReadsAt ((w.alloc (.cells cs 5)).drewN 2) 1 (.slice A 1 c) 1 [cellB x]:=(ReadsAt.alloc hb _).drewN 2
 have hcopy:=run_copy_fz (P:=Tryz.prog) 38 38 3 5 tBytes.under (by kernel_rfl) (g:=w.heap.size) (off:=0) (dLen:=n) (dCap:=n) (hH1.get (List.mem_cons_self)) (okfz_zero _) hB1 (by omega) (by intro y hy;rw [List.mem_singleton.1 hy];rfl)
 rw [show min 1 n=1 by omega] at hcopy
 have HH1:=Lib.hid hH1
 have HG1:=Lib.hid hG1
 clear hH1 hG1 hB1 hlm
 go_enter Tryz.func71,Tryz.ntmps71
 go_wp2_with fail
 refine (HM.out w).mono ?_
 rintro e wx ⟨rfl,rfl⟩
 go_wp2_with (at_builtin;refine Lib.wpList_copy_run _ rfl _ _ 38 38 rfl _ _ rfl rfl hcopy ?_)
 go_loopw [10,11] (fun iv _ wr=>RepTo w.heap.size n x w Fr iv wr) (fun iv _ _=>n - (intOf iv).toNat)
 case atStart =>
  have htl:cs.toList.tail.length=cs.size - 1:=by simp
  refine ⟨1,_,Nat.le_refl _,hn1,rfl,?_,?_,?_,HH1.out.setRow' _,HG1.out.setRow _ _⟩
  ·simp;omega
  ·simp
  ·simp [maxLen];omega
 case round =>
  obtain ⟨j,cur,hj1,hjn,rfl,hcs,htk,hcm2,hHr,hgr⟩:=hrel
  unfold maxLen at hcm2
  clear HH1 HG1 hcopy hcall hb
  by_cases hlt:j<n
  ·have hlt2:(j:Int)<(n:Int):=by omega
   have hmin:min (j:Int) (n:Int)=(j:Int):=by omega
   go_upto_region 20 with fail
   have hsrc:∀ wx:World,Holds wx ((w.heap.size,.cells cur 5)::Fr)→ReadsAt wx 1 (.slice (some ⟨w.heap.size,0,none⟩) j n) j ((List.replicate j x).map cellB):=fun wx hx =>
    ReadsAt.of_block (hx.get (List.mem_cons_self)) _ (by simp) hjn (by simp [maxLen];omega) (fun i u hu=>by
     rw [← htk,List.getElem?_take] at hu
     split at hu
     ·simpa using hu
     ·cases hu)
   obtain ⟨mm,hmm⟩:∃ mm,mm=min j (n - j):=⟨_,rfl⟩
   have hml:mm≤j:=by omega
   have hmn:j+mm≤n:=by omega
   have hm1:1≤mm:=by omega
   obtain ⟨cur2,hc2⟩:∃ cur2,cur2=(cur.toList.take j++((List.replicate j x).map cellB).take mm++cur.toList.drop (j+mm)).toArray:=⟨_,rfl⟩
   have hcp:∀ wx:World,Holds wx ((w.heap.size,.cells cur 5)::Fr)→(Builtin.copy_ #[38,38] 3 #[.slice (some ⟨w.heap.size,j,none⟩) (n - j) (n - j),.slice (some ⟨w.heap.size,0,none⟩) j n]).run Tryz.prog wx=.ok (.int .i64 (mm:Int)) (wx.setRow w.heap.size cur2):=fun wx hx=>by
    have:=run_copy_fz (P:=Tryz.prog) 38 38 3 5 tBytes.under (by kernel_rfl) (g:=w.heap.size) (off:=j) (dLen:=n - j) (dCap:=n - j) (hx.get (List.mem_cons_self)) (okfz_zero _) (hsrc wx hx) (by omega) (by intro y hy;obtain ⟨z,_,rfl⟩:=List.mem_map.1 hy;rfl)
    rw [← hmm,← hc2] at this
    exact this
   have hsz2:cur2.size=cur.size:=by rw [hc2];simp;omega
   have htk2:cur2.toList.take (j+mm)=(List.replicate (j+mm) x).map cellB:=by
    have e1:(cur.toList.take j++((List.replicate j x).map cellB).take mm).length=j+mm:=by simp;omega
    rw [hc2]
    show List.take (j+mm) (cur.toList.take j++((List.replicate j x).map cellB).take mm++cur.toList.drop (j+mm))=_
    rw [List.take_append_of_le_length (by omega),List.take_of_length_le (by omega),htk,← List.map_take,List.take_replicate,← List.map_append,List.replicate_append_replicate]
    congr 2
    omega
   have HTK:=Lib.hid htk2
   have HCS:=Lib.hid (show n≤cur2.size by rw [hsz2];exact hcs)
   have HCM:=Lib.hid (show cur2.size≤maxLen by rw [hsz2];simp [maxLen];omega)
   clear hmm hc2 hsz2 htk2
   have hsl1:∀ W:World,(Instr.slice 38 (.slice (some ⟨w.heap.size,0,none⟩) n n) (some (.int .i64 (j:Int))) none none).run Tryz.prog W=.ok (.slice (some ⟨w.heap.size,j,none⟩) (n - j) (n - j)) W:=fun W=>by
    have:=Lib.run_slice_tailV (P:=Tryz.prog) W 38 5 tBytes.under (fun w=>by obtain ⟨i,hi,_,h1,_⟩:=tBytes.info;simp [sizeOf,typeInfo,hi,h1]) w.heap.size n j (by omega)
    rw [this];unfold Lib.tailV;rw [if_neg (by omega)]
   refine Z_begin (fun _=>True∧True) 10 (by kernel_rfl) (fun w1 hd=>⟨trivial,trivial⟩) (fun w1 hd hs=>?_)
   have hH1:=hHr.dr hd;have hG1:=hgr.trans (Grew.dr hd);clear hd hHr hgr
   refine Zt 0 67 ?_ rfl hs ?_ ?_
   rotate_left
   ·rintro wx ⟨x1,x2⟩;go_simp;try with_reducible rfl
   simp only [pt,sA,sS,sZ]
   refine Zt 1 68 ?_ rfl hs ?_ ?_
   rotate_left
   ·rintro wx ⟨x1,x2⟩;go_simp;try with_reducible rfl
   simp only [pt,sA,sS,sZ]
   refine Zt 2 69 ?_ rfl hs ?_ ?_
   rotate_left
   ·rintro wx ⟨x1,x2⟩;go_simp;try with_reducible rfl
   simp only [pt,sA,sS,sZ]
   refine Zt 3 70 ?_ rfl hs ?_ ?_
   rotate_left
   ·rintro wx ⟨x1,x2⟩;go_simp;try with_reducible rfl
   simp only [pt,sA,sS,sZ]
   refine Zt 4 71 ?_ rfl hs ?_ ?_
   rotate_left
   ·rintro wx ⟨x1,x2⟩;go_simp;try with_reducible rfl
   simp only [pt,sA,sS,sZ]
   refine Zt 5 72 ?_ rfl hs ?_ ?_
   rotate_left
   ·rintro wx ⟨x1,x2⟩;go_simp;try with_reducible rfl
   simp only [pt,sA,sS,sZ]
   refine Zt 6 73 ?_ rfl hs ?_ ?_
   rotate_left
   ·rintro wx ⟨x1,x2⟩;go_simp;try with_reducible rfl
   simp only [pt,sA,sS,sZ]
   refine Z_mid 7 rfl (by kernel_rfl) (fun K hK=>?_)
   have ⟨x1,x2⟩:=hs
   refine step_copy rfl (.tmp 70) (.tmp 73) 38 38 (some 74) rfl rfl _ _ rfl rfl (hcp w1 hH1) ?_
   clear x1 x2
   refine hK _ _ (⟨trivial,trivial⟩) (fun hs2=>?_);clear hK K hs;have hs:=hs2;clear hs2
   refine Zt 8 75 ?_ rfl hs ?_ ?_
   rotate_left
   ·rintro wx ⟨x1,x2⟩;go_simp;try with_reducible rfl
   simp only [pt,sA,sS,sZ]
   refine Zt 9 10 ?_ rfl hs ?_ ?_
   rotate_left
   ·rintro wx ⟨x1,x2⟩;go_simp;try with_reducible rfl
   simp only [pt,sA,sS,sZ]
   refine Z_done (by kernel_rfl) ?_ _
   have hrow:=Holds.setRow' hH1 cur2
   have hGf:=hG1.setRow w.heap.size cur2
   have hfin:RepTo w.heap.size n x w Fr (.int .i64 ((j:Int)+(mm:Int))) (w1.setRow w.heap.size cur2) :=
    ⟨j+mm,cur2,by omega,hmn,by congr 1,HCS.out,HTK.out,HCM.out,hrow,hGf⟩
   have HFIN:=Lib.hid hfin
   have hwr:IntKind.i64.wrap ((j:Int)+(mm:Int))=(j:Int)+(mm:Int):=wrap_small _ (by omega) (by omega)
   clear hfin hrow hGf hH1 hG1 hcp hsrc hsl1 HTK HCS HCM
   go_wp2_with fail
   rw [hwr]
   exact ⟨HFIN.out,by simp [intOf];omega⟩
  ·obtain rfl:j=n:=by omega
   go_wp2_with fail
   go_ret
   refine ⟨_,[(w.heap.size,.cells cur 5)],rfl,?_,hHr,hgr⟩
   unfold IsBytes
   rw [List.length_replicate]
   exact ⟨by simp,.inr ⟨_,_,cur,(0,0),rfl,Nat.le_refl _,by simp [maxLen];omega,by omega,by rw [Nat.mul_one];exact htk,okfz_zero _,rfl⟩⟩
end Go.Proofs.YtoelopghilbfeaaGreat
namespace Go.Proofs.YtoelopghilbfeaaGreat
open Go.RowKit
set_option linter.unusedSimpArgs false
set_option linter.unusedVariables false
structure Mi where
 at_:Int
 kind:Int
 bytes:Int
 fill:UInt8
def Mi.cells (m:Mi):List Value:=[.int .i64 m.at_,.int .i64 m.kind,.int .i64 m.bytes,cellB m.fill]
def Mi.agg (m:Mi):Value:=.agg #[.int .i64 m.at_,.int .i64 m.kind,.int .i64 m.bytes,cellB m.fill]
def Mi.zero:Mi:=⟨0,0,0,0⟩
def MsAt (w:World) (v:Value) (ms:List Mi):Prop:=ReadsAt w 4 v ms.length (ms.map Mi.cells).flatten
def IsMs (v:Value) (ms:List Mi) (H:HL):Prop:=IsRow 48 4 v ms.length (ms.map Mi.cells).flatten H
theorem tMis:SlT Tryz.prog 46 48 4 32 (.agg #[.int .i64 0,.int .i64 0,.int .i64 0,.int .u8 0]):=SlT.mk' (by kernel_rfl) (by kernel_rfl) (by rfl) (by decide)
def idxFrom (n:Int):List Mi→Int→Int
 |[],_=>-1
 |m::ms,k=>if m.at_=n then k else idxFrom n ms (k+1)
def FrMs (Fr:HL) (v:Value) (ms:List Mi):Prop:=∀ w,Holds w Fr→MsAt w v ms
set_option maxRecDepth 20000 in
theorem atF_any (n:Int) (m:Mi) (b:Nat) (w:World) (Fr:HL) (hH:Holds w Fr) (hb:(b,Obj.cells #[.int .i64 n] 3)∈Fr) :
  Calls Tryz.prog 123 #[.agg #[.int .i64 m.at_,.int .i64 m.kind,.int .i64 m.bytes,cellB m.fill],.pointer (some ⟨b,0,none⟩)] w (RetFr (.bool (m.at_ == n)) w Fr):=by
 have hHA:=hH.alloc (.cells #[.int .i64 m.at_,.int .i64 m.kind,.int .i64 m.bytes,cellB m.fill] 48)
 have z0:=hHA.hcell 0
 have z1:=hHA.cell (List.mem_cons_of_mem _ hb) 0
 simp only [List.getElem?_toArray,List.getElem?_cons_zero,List.getElem?_cons_succ] at z0 z1
 go_enter Tryz.func123,Tryz.ntmps123
 go_wp2_with fail
 go_ret
 exact ⟨rfl,hHA.tail,(Grew.refl w).alloc _⟩
def IdxTo (n:Int) (ms:List Mi) (w:World) (Fr:HL) (iv:Value) (wr:World):Prop :=
 ∃ k:Nat,k≤ms.length∧iv=.int .i64 k∧idxFrom n ms 0=idxFrom n (ms.drop k) k∧Holds wr Fr∧Grew w wr
set_option maxRecDepth 20000 in
set_option maxHeartbeats 1000000 in
theorem index_any (n:Int) (v:Value) (ms:List Mi) (b:Nat) (w:World) (Fr:HL) (hv:FrMs Fr v ms) (hH:Holds w Fr) (hb:(b,Obj.cells #[.int .i64 n] 3)∈Fr) :
  Calls Tryz.prog 122 #[v,.func (Fn.func 123) #[] #[.pointer (some ⟨b,0,none⟩)]] w (RetFr (.int .i64 (idxFrom n ms 0)) w Fr):=by
 have HV:=Lib.hid hv
 obtain ⟨_,A,c,rfl,hc1,hc2,_⟩:=hv w hH
 unfold maxLen at hc2
 go_enter Tryz.func122,Tryz.ntmps122
 go_wp2_with fail
 go_loopw [5,8] (fun _ iv wr=>IdxTo n ms w Fr iv wr) (fun _ iv _=>ms.length - (intOf iv).toNat)
 case atStart=>exact ⟨0,by omega,rfl,rfl,hH,Grew.refl w⟩
 case round =>
  obtain ⟨k,hk,rfl,hix,hHr,hgr⟩:=hrel
  by_cases hlt:k<ms.length
  ·obtain ⟨_,A',c',hv',_,_,hrd⟩:=HV.out wr hHr
   injection hv' with hv1 _ hv3
   subst hv1 hv3
   obtain ⟨ba,oa,rfl,hwc⟩:=hrd (by omega)
   have hsz:∀ z∈ms.map Mi.cells,z.length=4:=by intro z hz;obtain ⟨a,_,rfl⟩:=List.mem_map.1 hz;rfl
   have hgi:(ms.map Mi.cells)[k]?=some (ms[k]).cells:=by simp [hlt]
   have y0:=hwc (k * 4+0) (.int .i64 (ms[k]).at_) (by rw [flat_get _ hsz k 0 _ hgi (by omega)];rfl)
   have y1:=hwc (k * 4+1) (.int .i64 (ms[k]).kind) (by rw [flat_get _ hsz k 1 _ hgi (by omega)];rfl)
   have y2:=hwc (k * 4+2) (.int .i64 (ms[k]).bytes) (by rw [flat_get _ hsz k 2 _ hgi (by omega)];rfl)
   have y3:=hwc (k * 4+3) (cellB (ms[k]).fill) (by rw [flat_get _ hsz k 3 _ hgi (by omega)];rfl)
   rw [Nat.add_zero] at y0
   rw [← Nat.add_assoc] at y1 y2 y3
   have hdr:ms.drop k=ms[k]::ms.drop (k+1):=List.drop_eq_getElem_cons hlt
   rw [hdr] at hix
   clear hwc hrd hsz hgi hdr hH
   generalize ms[k]=m at *
   obtain ⟨ma,mk,mb,mf⟩:=m
   simp only at y0 y1 y2 y3 hix
   go_wp2_with fail
   refine (atF_any n ⟨ma,mk,mb,mf⟩ b wr Fr hHr hb).mono ?_
   rintro e w3 ⟨rfl,hH3,hg3⟩
   rw [idxFrom] at hix
   by_cases hm:ma=n
   ·have e1:(ma == n)=true:=by simp [hm]
    rw [if_pos hm] at hix
    have HIX:=Lib.hid hix
    clear hix hm y0 y1 y2 y3 hHr
    go_wp2_with fail
    go_ret
    exact ⟨by rw [HIX.out];rfl,hH3,hgr.trans hg3⟩
   ·have e1:(ma == n)=false:=by simpa using hm
    rw [if_neg hm] at hix
    have hfin:IdxTo n ms w Fr (.int .i64 ((k:Int)+1)) w3:=⟨k+1,by omega,by go_num,by rw [hix];norm_cast,hH3,hgr.trans hg3⟩
    have HFIN:=Lib.hid hfin
    clear hix hm y0 y1 y2 y3 hHr hfin hH3 hg3
    go_wp2_with fail
    exact ⟨HFIN.out,by simp [intOf];omega⟩
  ·obtain rfl:k=ms.length:=by omega
   rw [List.drop_length] at hix
   go_wp2_with fail
   go_ret
   exact ⟨by rw [hix];rfl,hHr,hgr⟩
def miAt (n:Int) (ms:List Mi):Option Mi:=ms.find? fun m=>decide (m.at_=n)
theorem idx_find (n:Int):∀ (ms:List Mi) (k:Int),0≤k→(idxFrom n ms k=-1∧miAt n ms=none)∨∃ i:Nat,i<ms.length∧idxFrom n ms k=k+i∧miAt n ms=ms[i]?
 |[],k,_=>.inl ⟨rfl,rfl⟩
 |m::ms,k,hk=>by
  unfold idxFrom miAt
  rw [List.find?_cons]
  by_cases h:m.at_=n
  ·right;exact ⟨0,by simp,by simp [h],by simp [h]⟩
  ·have ih:=idx_find n ms (k+1) (by omega)
   rw [if_neg h]
   simp only [h,decide_false]
   rcases ih with ⟨h1,h2⟩ | ⟨i,h1,h2,h3⟩
   ·left;exact ⟨h1,h2⟩
   ·right;exact ⟨i+1,by simp;omega,by rw [h2];push_cast;omega,by rw [List.getElem?_cons_succ];exact h3⟩
set_option maxRecDepth 20000 in
set_option maxHeartbeats 1000000 in
theorem mat_any (n:Int) (v:Value) (ms:List Mi) (w:World) (Fr:HL) (hv:FrMs Fr v ms) (hH:Holds w Fr) :
  Calls Tryz.prog 112 #[.int .i64 n,v] w (RetFr (.tuple #[((miAt n ms).getD Mi.zero).agg,.bool (miAt n ms).isSome]) w Fr):=by
 have HV:=Lib.hid hv
 obtain ⟨_,A,c,rfl,hc1,hc2,_⟩:=hv w hH
 unfold maxLen at hc2
 have hHA:=(hH.alloc (.cells #[.int .i64 n] 3)).alloc (.cells #[.int .i64 0,.int .i64 0,.int .i64 0,.int .u8 0] 48)
 have hGA:=((Grew.refl w).alloc (.cells #[.int .i64 n] 3)).alloc (.cells #[.int .i64 0,.int .i64 0,.int .i64 0,.int .u8 0] 48)
 rw [World.size_alloc] at hHA
 go_enter Tryz.func112,Tryz.ntmps112
 go_wp2_with fail
 refine (index_any n (.slice A ms.length c) ms w.heap.size _ _ (fun wx hx=>HV.out wx hx.tail.tail) hHA (by simp)).mono ?_
 rintro e w3 ⟨rfl,hH3,hg3⟩
 have hG3:=hGA.trans hg3
 generalize w.heap.size=t at *
 have z0:=hH3.hcell 0
 have z1:=hH3.hcell 1
 have z2:=hH3.hcell 2
 have z3:=hH3.hcell 3
 have f0:=hH3.hfrozen 0
 have f1:=hH3.hfrozen 1
 have f2:=hH3.hfrozen 2
 have f3:=hH3.hfrozen 3
 simp only [List.getElem?_toArray,List.getElem?_cons_zero,List.getElem?_cons_succ] at z0 z1 z2 z3
 have hres:Tryz.f112.results=#[ResultVar.cell 4 48,ResultVar.tmp 5]:=by rfl
 rcases idx_find n ms 0 (by omega) with ⟨h1,h2⟩ | ⟨i,h1,h2,h3⟩
 ·rw [h1]
  have H2:=Lib.hid h2
  clear h1 h2 hH hHA hGA
  go_wp2_with fail
  have hS:=Holds.set (Holds.set (Holds.set (Holds.set hH3 0 (.int .i64 0)) 1 (.int .i64 0)) 2 (.int .i64 0)) 3 (.int .u8 0)
  have hGS:=(((hG3.setCell ⟨t+1,0,none⟩ (.int .i64 0)).setCell ⟨t+1,1,none⟩ (.int .i64 0)).setCell ⟨t+1,2,none⟩ (.int .i64 0)).setCell ⟨t+1,3,none⟩ (.int .u8 0)
  generalize (((w3.setCell ⟨t+1,0,none⟩ (.int .i64 0)).setCell ⟨t+1,1,none⟩ (.int .i64 0)).setCell ⟨t+1,2,none⟩ (.int .i64 0)).setCell ⟨t+1,3,none⟩ (.int .u8 0)=wf at *
  have u0:=hS.hcell 0
  have u1:=hS.hcell 1
  have u2:=hS.hcell 2
  have u3:=hS.hcell 3
  simp only [List.setIfInBounds_toArray,List.set_cons_zero,List.set_cons_succ,List.getElem?_toArray,List.getElem?_cons_zero,List.getElem?_cons_succ] at u0 u1 u2 u3
  refine bodyPost_ret (v:=.tuple #[.agg #[.int .i64 0,.int .i64 0,.int .i64 0,.int .u8 0],.bool false]) ?_ rfl ⟨by rw [H2.out];rfl,hS.tail.tail,hGS⟩
  unfold results
  rw [hres]
  go_simp
 ·rw [h2]
  obtain ⟨_,A',c',hv',_,_,hrd⟩:=HV.out w3 hH3.tail.tail
  injection hv' with hv1 _ hv3
  subst hv1 hv3
  obtain ⟨ba,oa,rfl,hwc⟩:=hrd (by omega)
  have hsz:∀ z∈ms.map Mi.cells,z.length=4:=by intro z hz;obtain ⟨a,_,rfl⟩:=List.mem_map.1 hz;rfl
  have hgi:(ms.map Mi.cells)[i]?=some (ms[i]).cells:=by simp [h1]
  have y0:=hwc (i * 4+0) (.int .i64 (ms[i]).at_) (by rw [flat_get _ hsz i 0 _ hgi (by omega)];rfl)
  have y1:=hwc (i * 4+1) (.int .i64 (ms[i]).kind) (by rw [flat_get _ hsz i 1 _ hgi (by omega)];rfl)
  have y2:=hwc (i * 4+2) (.int .i64 (ms[i]).bytes) (by rw [flat_get _ hsz i 2 _ hgi (by omega)];rfl)
  have y3:=hwc (i * 4+3) (cellB (ms[i]).fill) (by rw [flat_get _ hsz i 3 _ hgi (by omega)];rfl)
  rw [Nat.add_zero] at y0
  rw [← Nat.add_assoc] at y1 y2 y3
  have hgm:ms[i]?=some ms[i]:=List.getElem?_eq_getElem h1
  rw [hgm] at h3
  have H3:=Lib.hid h3
  clear hwc hrd hsz hgi hgm h2 h3 hH hHA hGA
  generalize ms[i]=m at *
  obtain ⟨ma,mk,mb,mf⟩:=m
  simp only at y0 y1 y2 y3
  have hi0:¬ ((0:Int)+(i:Int)<0):=by omega
  have hi1:(0:Int)+(i:Int)=(i:Int):=by omega
  rw [hi1]
  unfold cellB at y3
  go_wp2_with fail
  have hS:=Holds.set (Holds.set (Holds.set (Holds.set hH3 0 (.int .i64 ma)) 1 (.int .i64 mk)) 2 (.int .i64 mb)) 3 (.int .u8 (mf.toNat:Int))
  have hGS:=(((hG3.setCell ⟨t+1,0,none⟩ (.int .i64 ma)).setCell ⟨t+1,1,none⟩ (.int .i64 mk)).setCell ⟨t+1,2,none⟩ (.int .i64 mb)).setCell ⟨t+1,3,none⟩ (.int .u8 (mf.toNat:Int))
  generalize (((w3.setCell ⟨t+1,0,none⟩ (.int .i64 ma)).setCell ⟨t+1,1,none⟩ (.int .i64 mk)).setCell ⟨t+1,2,none⟩ (.int .i64 mb)).setCell ⟨t+1,3,none⟩ (.int .u8 (mf.toNat:Int))=wf at *
  have u0:=hS.hcell 0
  have u1:=hS.hcell 1
  have u2:=hS.hcell 2
  have u3:=hS.hcell 3
  simp only [List.setIfInBounds_toArray,List.set_cons_zero,List.set_cons_succ,List.getElem?_toArray,List.getElem?_cons_zero,List.getElem?_cons_succ] at u0 u1 u2 u3
  refine bodyPost_ret (v:=.tuple #[.agg #[.int .i64 ma,.int .i64 mk,.int .i64 mb,.int .u8 (mf.toNat:Int)],.bool true]) ?_ rfl ⟨by rw [H3.out];rfl,hS.tail.tail,hGS⟩
  unfold results
  rw [hres]
  go_simp
def Mi.ok (m:Mi):Prop:=1≤m.at_∧m.at_≤1073741824∧(m.kind=1∨m.kind=2)∧0≤m.bytes∧m.bytes≤65536
set_option maxRecDepth 20000 in
theorem mone_yes (m:Mi) (w:World) (Fr:HL) (hH:Holds w Fr) (hm:m.ok) :
  Calls Tryz.prog 70 #[.agg #[.int .i64 m.at_,.int .i64 m.kind,.int .i64 m.bytes,cellB m.fill]] w (RetFr (.bool true) w Fr):=by
 obtain ⟨ma,mk,mb,mf⟩:=m
 obtain ⟨h1,h2,h3,h4,h5⟩:=hm
 simp only at h1 h2 h3 h4 h5 ⊢
 have hHA:=hH.alloc (.cells #[.int .i64 ma,.int .i64 mk,.int .i64 mb,cellB mf] 48)
 rcases h3 with rfl | rfl
 all_goals
  go_enter Tryz.func70,Tryz.ntmps70
  go_wp2_with fail
  go_ret
  exact ⟨rfl,hHA.tail,(Grew.refl w).alloc _⟩
theorem may_none (w:World):Calls Tryz.prog 36 #[.slice none 0 0] w fun e w'=>e=.returned (.bool true)∧w=w':=by
 go_enter Tryz.func36,Tryz.ntmps36
 go_wp2_with fail
 go_loopw [7] (fun iv wr=>iv=.int .i64 0∧wr=w) (fun _ _=>0)
 case atStart=>exact ⟨rfl,rfl⟩
 case round =>
  obtain ⟨rfl,rfl⟩:=hrel
  go_wp2_with fail
  go_ret
  exact ⟨rfl,rfl⟩
set_option maxRecDepth 20000 in
theorem clonemi_any (v:Value) (bs:List Mi) (w:World) (Fr:HL) (hb:MsAt w v bs) (hH:Holds w Fr) (hsm:bs.length≤1000000) :
  Calls Tryz.prog 37 #[v] w (RetNew (fun v H=>IsMs v bs H) w Fr):=by
 have h1:∀ y∈(bs.map Mi.cells).flatten,y.oneCell'=true:=by
  intro y hy
  obtain ⟨c,hc,hyc⟩:=List.mem_flatten.1 hy
  obtain ⟨x,_,rfl⟩:=List.mem_map.1 hc
  simp only [Mi.cells,List.mem_cons,List.not_mem_nil,or_false] at hyc
  rcases hyc with rfl | rfl | rfl | rfl <;> rfl
 have hb0:=hb
 obtain ⟨_,A,c,rfl,_,_,_⟩:=hb0
 have HB:=Lib.hid hb
 have H1:=Lib.hid h1;clear h1
 cases A with
 |none =>
  obtain ⟨_,A,c',hv,hc1,hc2,h0⟩:=hb
  injection hv with hv1 hv2 hv3
  subst hv1 hv3
  have hz:bs.length=0:=by
   rcases Nat.eq_zero_or_pos bs.length with h | h
   ·exact h
   ·obtain ⟨b,o,h,_⟩:=h0 h;cases h
  obtain rfl:bs=[]:=List.eq_nil_of_length_eq_zero hz
  have k1:∀ w:World,(binOp .eql 46 (.slice none 0 c) (.slice none 0 0)).run Tryz.prog w=.ok (.bool true) w:=fun w=>Lib.run_eql_slice_nil w _ _ _ _ _ _ _ tMis.under
  clear h0 hz hc1
  go_enter Tryz.func37,Tryz.ntmps37
  go_wp2
  go_ret
  exact ⟨_,[],rfl,IsRow.nil _ _,hH,Grew.refl w⟩
 |some a =>
  have k1:∀ w:World,(binOp .eql 46 (.slice (some a) bs.length c) (.slice none 0 0)).run Tryz.prog w=.ok (.bool false) w:=fun w=>Lib.run_eql_slice_nil w _ _ _ _ _ _ _ tMis.under
  clear hb
  go_enter Tryz.func37,Tryz.ntmps37
  go_wp2_with (at_builtin;refine wpList_append_T tMis (by rfl) (.tmp 5) (.tmp 6) (by rfl) (by rfl) (by rfl) (IsRow.made0 (size:=4) (e:=48) w.heap.size 0 #[] (by rfl) (by simp [maxLen])) ((hH.alloc (.cells #[] 48))) (HB.out.alloc _) H1.out (by simp [maxLen];omega) (by omega) ?_;intro A' c' w' H' hrow hH3 hg2)
  go_ret
  simp only [Nat.zero_add,List.nil_append] at hrow
  exact ⟨_,H',rfl,hrow,hH3,((Grew.refl w).alloc _).trans hg2⟩
end Go.Proofs.YtoelopghilbfeaaGreat
namespace Go.Proofs.YtoelopghilbfeaaGreat
open Go.RowKit
set_option linter.unusedSimpArgs false
set_option linter.unusedVariables false
theorem tNblocks:SlT Tryz.prog 82 88 5 48 (.agg #[.slice none 0 0,.int .i64 0,.int .i64 0,.bool false,.bool false]):=SlT.mk' (by kernel_rfl) (by kernel_rfl) (by rfl) (by decide)
theorem tBytess8:SlT Tryz.prog 85 38 1 24 (.slice none 0 0):=SlT.mk' (by kernel_rfl) (by kernel_rfl) (by rfl) (by decide)
structure CB where
 pages:List (List UInt8)
 next:Int
 wear:Int
 failed:Bool
 mark:Bool
structure CM where
 P:Nat
 Z:Nat
 blocks:List CB
 ms:List Mi
 on:Bool
 ops:Int
 misuse:Int
 programs:Int
def CM.setB (c:CM) (k:Nat) (x:CB):CM:={ c with blocks:=c.blocks.set k x }
def CB.ok (x:CB) (P Z:Nat) (ops:Int):Prop:=x.pages.length=P∧(∀ p∈x.pages,p.length=Z+28)∧0≤x.next∧x.next≤P∧0≤x.wear∧x.wear≤ops
def CM.ok (c:CM):Prop:=1≤c.P∧c.P≤8∧128≤c.Z∧c.Z≤256∧1≤c.blocks.length∧c.blocks.length≤32∧c.ms.length≤24∧(∀ m∈c.ms,m.ok)∧0≤c.ops∧0≤c.misuse∧c.misuse≤c.ops∧0≤c.programs∧c.programs≤c.ops∧∀ x∈c.blocks,x.ok c.P c.Z c.ops
def cbR (c:List Value) (x:CB) (H:HL):Prop:=∃ pv,c=[pv,.int .i64 x.next,.int .i64 x.wear,.bool x.failed,.bool x.mark]∧IsBys pv x.pages H
def chipO (g cap:Nat) (mv:Value) (c:CM):Obj:=.cells #[.int .i64 (c.blocks.length:Int),.int .i64 (c.P:Int),.int .i64 (c.Z:Int),.slice (some ⟨g,0,none⟩) c.blocks.length cap,mv,.bool c.on,.int .i64 c.ops,.int .i64 c.misuse,.int .i64 c.programs] 84
def ChipAt (b g cap:Nat) (mv:Value) (c:CM) (H:HL):Prop :=
 ∃ Hb Hm,Rows2 cbR 88 5 (.slice (some ⟨g,0,none⟩) c.blocks.length cap) c.blocks Hb∧IsMs mv c.ms Hm∧c.ok∧H=(b,chipO g cap mv c)::(Hb++Hm)
def IsChip (v:Value) (c:CM) (H:HL):Prop:=∃ b g cap mv,v=.pointer (some ⟨b,0,none⟩)∧ChipAt b g cap mv c H
section
variable {b g cap:Nat} {mv:Value} {c:CM} {H F:HL} {w:World}
theorem ChipAt.cok (h:ChipAt b g cap mv c H):c.ok:=by obtain ⟨_,_,_,_,h,_⟩:=h;exact h
theorem ChipAt.caps (h:ChipAt b g cap mv c H):c.blocks.length≤cap∧cap≤maxLen:=by
 obtain ⟨_,_,h,_⟩:=h
 obtain ⟨A,c2,hv,h1,h2⟩:=h.val
 injection hv with _ _ hv
 subst hv
 exact ⟨h1,h2⟩
theorem ChipAt.heads (h:ChipAt b g cap mv c H) (hH:Holds w (H++F)) :
  w.cell? ⟨b,0,none⟩=some (.int .i64 (c.blocks.length:Int))∧w.cell? ⟨b,1,none⟩=some (.int .i64 (c.P:Int))∧w.cell? ⟨b,2,none⟩=some (.int .i64 (c.Z:Int)) ∧
  w.cell? ⟨b,3,none⟩=some (.slice (some ⟨g,0,none⟩) c.blocks.length cap)∧w.cell? ⟨b,4,none⟩=some mv∧w.cell? ⟨b,5,none⟩=some (.bool c.on)∧w.cell? ⟨b,6,none⟩=some (.int .i64 c.ops) ∧
  w.cell? ⟨b,7,none⟩=some (.int .i64 c.misuse)∧w.cell? ⟨b,8,none⟩=some (.int .i64 c.programs) ∧
  w.frozen? ⟨b,5,none⟩=false∧w.frozen? ⟨b,6,none⟩=false∧w.frozen? ⟨b,7,none⟩=false∧w.frozen? ⟨b,8,none⟩=false:=by
 obtain ⟨Hb,Hm,_,_,_,rfl⟩:=h
 unfold chipO at hH
 exact ⟨by simpa using hH.hcell 0,by simpa using hH.hcell 1,by simpa using hH.hcell 2,by simpa using hH.hcell 3,by simpa using hH.hcell 4,by simpa using hH.hcell 5,by simpa using hH.hcell 6,by simpa using hH.hcell 7,by simpa using hH.hcell 8,
  hH.hfrozen 5,hH.hfrozen 6,hH.hfrozen 7,hH.hfrozen 8⟩
theorem ChipAt.mis (h:ChipAt b g cap mv c H) (hH:Holds w (H++F)):MsAt w mv c.ms:=by
 obtain ⟨Hb,Hm,_,hm,_,rfl⟩:=h
 exact IsRow.reads hm (Fr:=Hb++((b,chipO g cap mv c)::F)) (hH.p)
theorem ChipAt.setOn (h:ChipAt b g cap mv c H) (hH:Holds w (H++F)) (u:Bool):∃ H',ChipAt b g cap mv { c with on:=u } H'∧Holds (w.setCell ⟨b,5,none⟩ (.bool u)) (H'++F):=by
 obtain ⟨Hb,Hm,h1,h2,h3,rfl⟩:=h
 refine ⟨_,⟨Hb,Hm,h1,h2,h3,rfl⟩,?_⟩
 have:=Holds.set hH 5 (.bool u)
 simpa [chipO] using this
theorem ChipAt.setOps (h:ChipAt b g cap mv c H) (hH:Holds w (H++F)):∃ H',ChipAt b g cap mv { c with ops:=c.ops+1 } H'∧Holds (w.setCell ⟨b,6,none⟩ (.int .i64 (c.ops+1))) (H'++F):=by
 obtain ⟨Hb,Hm,h1,h2,h3,rfl⟩:=h
 obtain ⟨a1,a2,a3,a4,a5,a6,a7,a8,a9,b1,b2,b3,b4,b5⟩:=h3
 refine ⟨_,⟨Hb,Hm,h1,h2,⟨a1,a2,a3,a4,a5,a6,a7,a8,by show 0≤c.ops+1;omega,b1,by show c.misuse≤c.ops+1;omega,b3,by show c.programs≤c.ops+1;omega,fun x hx=>?_⟩,rfl⟩,?_⟩
 ·obtain ⟨e1,e2,e3,e4,e5,e6⟩:=b5 x hx
  exact ⟨e1,e2,e3,e4,e5,by show x.wear≤c.ops+1;omega⟩
 ·have:=Holds.set hH 6 (.int .i64 (c.ops+1))
  simpa [chipO] using this
theorem ChipAt.setMisuse (h:ChipAt b g cap mv c H) (hH:Holds w (H++F)) (u:Int) (h0:0≤u) (h1:u≤c.ops):∃ H',ChipAt b g cap mv { c with misuse:=u } H'∧Holds (w.setCell ⟨b,7,none⟩ (.int .i64 u)) (H'++F):=by
 obtain ⟨Hb,Hm,h1',h2,h3,rfl⟩:=h
 obtain ⟨a1,a2,a3,a4,a5,a6,a7,a8,a9,b1,b2,b3,b4,b5⟩:=h3
 refine ⟨_,⟨Hb,Hm,h1',h2,⟨a1,a2,a3,a4,a5,a6,a7,a8,a9,h0,h1,b3,b4,b5⟩,rfl⟩,?_⟩
 have:=Holds.set hH 7 (.int .i64 u)
 simpa [chipO] using this
theorem ChipAt.setPrograms (h:ChipAt b g cap mv c H) (hH:Holds w (H++F)) (u:Int) (h0:0≤u) (h1:u≤c.ops):∃ H',ChipAt b g cap mv { c with programs:=u } H'∧Holds (w.setCell ⟨b,8,none⟩ (.int .i64 u)) (H'++F):=by
 obtain ⟨Hb,Hm,h1',h2,h3,rfl⟩:=h
 obtain ⟨a1,a2,a3,a4,a5,a6,a7,a8,a9,b1,b2,b3,b4,b5⟩:=h3
 refine ⟨_,⟨Hb,Hm,h1',h2,⟨a1,a2,a3,a4,a5,a6,a7,a8,a9,b1,b2,h0,h1,b5⟩,rfl⟩,?_⟩
 have:=Holds.set hH 8 (.int .i64 u)
 simpa [chipO] using this
structure BlkAt (b g cap:Nat) (mv:Value) (c:CM) (H:HL) (k:Nat) (x:CB) (pv:Value):Prop where
 bd:k<c.blocks.length
 ok:x.ok c.P c.Z c.ops
 cells:∀ (w:World) (F:HL),Holds w (H++F)→w.cell? ⟨g,k * 5,none⟩=some pv∧w.cell? ⟨g,k * 5+1,none⟩=some (.int .i64 x.next)∧w.cell? ⟨g,k * 5+2,none⟩=some (.int .i64 x.wear) ∧
  w.cell? ⟨g,k * 5+3,none⟩=some (.bool x.failed)∧w.cell? ⟨g,k * 5+4,none⟩=some (.bool x.mark)∧w.frozen? ⟨g,k * 5,none⟩=false∧w.frozen? ⟨g,k * 5+1,none⟩=false∧w.frozen? ⟨g,k * 5+2,none⟩=false∧w.frozen? ⟨g,k * 5+3,none⟩=false∧w.frozen? ⟨g,k * 5+4,none⟩=false
 setN:∀ (w:World) (F:HL) (u:Int),Holds w (H++F)→0≤u→u≤c.P→∃ H',ChipAt b g cap mv (c.setB k { x with next:=u }) H'∧Holds (w.setCell ⟨g,k * 5+1,none⟩ (.int .i64 u)) (H'++F)
 setW:∀ (w:World) (F:HL) (u:Int),Holds w (H++F)→0≤u→u≤c.ops→∃ H',ChipAt b g cap mv (c.setB k { x with wear:=u }) H'∧Holds (w.setCell ⟨g,k * 5+2,none⟩ (.int .i64 u)) (H'++F)
 setF:∀ (w:World) (F:HL) (u:Bool),Holds w (H++F)→∃ H',ChipAt b g cap mv (c.setB k { x with failed:=u }) H'∧Holds (w.setCell ⟨g,k * 5+3,none⟩ (.bool u)) (H'++F)
 setM:∀ (w:World) (F:HL) (u:Bool),Holds w (H++F)→∃ H',ChipAt b g cap mv (c.setB k { x with mark:=u }) H'∧Holds (w.setCell ⟨g,k * 5+4,none⟩ (.bool u)) (H'++F)
 setP:∀ (w:World) (F:HL) (pv':Value) (ps:List (List UInt8)) (Hp:HL),Holds w (H++(Hp++F))→IsBys pv' ps Hp→ps.length=c.P→(∀ p∈ps,p.length=c.Z+28)→∃ H',ChipAt b g cap mv (c.setB k { x with pages:=ps }) H'∧Holds (w.setCell ⟨g,k * 5,none⟩ pv') (H'++F)
 pages:∃ Hp Hr,IsBys pv x.pages Hp∧(∀ (w:World) (F:HL),Holds w (H++F)→Holds w (Hp++(Hr++F))) ∧
  ∀ (w:World) (F:HL) (ps:List (List UInt8)) (Hp':HL),IsBys pv ps Hp'→ps.length=c.P→(∀ p∈ps,p.length=c.Z+28)→Holds w (Hp'++(Hr++F))→∃ H',ChipAt b g cap mv (c.setB k { x with pages:=ps }) H'∧Holds w (H'++F)
theorem ChipAt.open_ (h:ChipAt b g cap mv c H) {k:Nat} {x:CB} (hx:c.blocks[k]?=some x):∃ pv,BlkAt b g cap mv c H k x pv:=by
 obtain ⟨Hb,Hm,h1,h2,h3,rfl⟩:=h
 obtain ⟨g',cap',cs,Hi,Hr,hv,hc1,hc2,hk,hcl,⟨pv,rfl,hbys⟩,hcell,hopen,hput,hset⟩:=h1.open2 hx
 injection hv with hv _ hvc
 injection hv with hv
 injection hv with hv
 subst hv hvc
 have hxo:x.ok c.P c.Z c.ops:=h3.2.2.2.2.2.2.2.2.2.2.2.2.2 x (List.mem_of_getElem? hx)
 have hrot:∀ (w:World) (F:HL),Holds w (((b,chipO g cap mv c)::(Hb++Hm))++F)→Holds w (Hi++(Hr++((b,chipO g cap mv c)::(Hm++F)))):=fun w F hH=>hopen w _ (hH.p)
 have hmk:∀ (x':CB) (H':HL),x'.ok c.P c.Z c.ops→Rows2 cbR 88 5 (.slice (some ⟨g,0,none⟩) c.blocks.length cap) (c.blocks.set k x') H'→ChipAt b g cap mv (c.setB k x') ((b,chipO g cap mv c)::(H'++Hm)):=by
  intro x' H' hx' hr
  obtain ⟨a1,a2,a3,a4,a5,a6,a7,a8,a9,b1,b2,b3,b4,b5⟩:=h3
  refine ⟨H',Hm,?_,h2,⟨a1,a2,a3,a4,?_,?_,a7,a8,a9,b1,b2,b3,b4,?_⟩,?_⟩
  ·simpa [CM.setB] using hr
  ·simpa [CM.setB] using a5
  ·simpa [CM.setB] using a6
  ·intro z hz
   rcases List.mem_or_eq_of_mem_set hz with h | h
   ·exact b5 z h
   ·rw [h];exact hx'
  ·simp [chipO,CM.setB]
 have hfin:∀ (w:World) (F H':HL),Holds w (H'++((b,chipO g cap mv c)::(Hm++F)))→Holds w (((b,chipO g cap mv c)::(H'++Hm))++F):=fun w F H' hH=>hH.p
 obtain ⟨o1,o2,o3,o4,o5,o6⟩:=hxo
 refine ⟨pv,⟨hk,⟨o1,o2,o3,o4,o5,o6⟩,?_,?_,?_,?_,?_,?_,?_⟩⟩
 ·intro w F hH
  have a:=(hcell w _ (hrot w F hH).right).2
  have e0:=a 0 (by omega)
  have e1:=a 1 (by omega)
  have e2:=a 2 (by omega)
  have e3:=a 3 (by omega)
  have e4:=a 4 (by omega)
  exact ⟨by simpa using e0.1,by simpa using e1.1,by simpa using e2.1,by simpa using e3.1,by simpa using e4.1,by simpa using e0.2,e1.2,e2.2,e3.2,e4.2⟩
 ·intro w F u hH hu1 hu2
  obtain ⟨H',a1,a2⟩:=hset w _ 1 (.int .i64 u) { x with next:=u } Hi (by omega) ⟨pv,rfl,hbys⟩ (hrot w F hH)
  exact ⟨_,hmk _ H' ⟨o1,o2,hu1,hu2,o5,o6⟩ a1,hfin _ F H' a2⟩
 ·intro w F u hH hu1 hu2
  obtain ⟨H',a1,a2⟩:=hset w _ 2 (.int .i64 u) { x with wear:=u } Hi (by omega) ⟨pv,rfl,hbys⟩ (hrot w F hH)
  exact ⟨_,hmk _ H' ⟨o1,o2,o3,o4,hu1,hu2⟩ a1,hfin _ F H' a2⟩
 ·intro w F u hH
  obtain ⟨H',a1,a2⟩:=hset w _ 3 (.bool u) { x with failed:=u } Hi (by omega) ⟨pv,rfl,hbys⟩ (hrot w F hH)
  exact ⟨_,hmk _ H' ⟨o1,o2,o3,o4,o5,o6⟩ a1,hfin _ F H' a2⟩
 ·intro w F u hH
  obtain ⟨H',a1,a2⟩:=hset w _ 4 (.bool u) { x with mark:=u } Hi (by omega) ⟨pv,rfl,hbys⟩ (hrot w F hH)
  exact ⟨_,hmk _ H' ⟨o1,o2,o3,o4,o5,o6⟩ a1,hfin _ F H' a2⟩
 ·intro w F pv' ps Hp hH hp hl hz
  have hr:=hrot w (Hp++F) hH
  obtain ⟨H',a1,a2⟩:=hset w ((b,chipO g cap mv c)::(Hm++F)) 0 pv' { x with pages:=ps } Hp (by omega) ⟨pv',rfl,hp⟩ (hr.right.p)
  exact ⟨_,hmk _ H' ⟨hl,hz,o3,o4,o5,o6⟩ a1,hfin _ F H' (by simpa using a2)⟩
 ·refine ⟨Hi,Hr++((b,chipO g cap mv c)::Hm),hbys,fun w F hH=>by have:=hrot w F hH;simpa using this,fun w F ps Hp' hp hl hz hH=>?_⟩
  obtain ⟨H',a1,a2⟩:=hput w ((b,chipO g cap mv c)::(Hm++F)) { x with pages:=ps } Hp' ⟨pv,rfl,hp⟩ (by simpa using hH)
  exact ⟨_,hmk _ H' ⟨hl,hz,o3,o4,o5,o6⟩ a1,hfin _ F H' a2⟩
end
end Go.Proofs.YtoelopghilbfeaaGreat
namespace Go.Proofs.YtoelopghilbfeaaGreat
open Go.RowKit
set_option linter.unusedSimpArgs false
set_option linter.unusedVariables false
set_option maxRecDepth 20000 in
theorem nwrong_any (c:Int) (w:World) (Fr:HL) (hc:c≠0) (hH:Holds w Fr):Calls Tryz.prog 90 #[.int .i64 c] w (RetErr c w Fr):=by
 have hc':=Lib.hid hc;clear hc
 go_enter Tryz.func90,Tryz.ntmps90
 go_wp2_with fail
 go_ret
 exact ⟨_,_,rfl,.inr ⟨hc'.out,_,_,rfl,rfl⟩,hH.alloc _,(Grew.refl w).alloc _⟩
set_option maxRecDepth 20000 in
theorem nbetween_any (n lo hi:Int) (w:World):Calls Tryz.prog 35 #[.int .i64 n,.int .i64 lo,.int .i64 hi] w fun e w'=>e=.returned (.bool (decide (lo≤n∧n≤hi)))∧w=w':=by
 by_cases h1:lo≤n
 ·by_cases h2:n≤hi
  ·go_enter Tryz.func35,Tryz.ntmps35
   go_wp2_with fail
   go_ret
   exact ⟨ret_b (by simp [h1,h2]),rfl⟩
  ·go_enter Tryz.func35,Tryz.ntmps35
   go_wp2_with fail
   go_ret
   exact ⟨ret_b (by simp;omega),rfl⟩
 ·go_enter Tryz.func35,Tryz.ntmps35
  go_wp2_with fail
  go_ret
  exact ⟨ret_b (by simp;omega),rfl⟩
def CM.there (c:CM) (k:Int):Bool:=decide (0≤k∧k<(c.blocks.length:Int))
def RetCh (b g cap:Nat) (mv:Value) (c':CM) (code:Int) (w:World) (Fr:HL) (e:Ending) (w':World):Prop :=
 ∃ ve H He,e=.returned ve∧IsErr ve code He∧ChipAt b g cap mv c' H∧Holds w' (H++(He++Fr))∧Grew w w'
section
variable {b g cap:Nat} {mv:Value} {c:CM} {H Fr:HL} {w:World}
set_option maxRecDepth 20000 in
theorem nthere_any (k:Int) (h:ChipAt b g cap mv c H) (hH:Holds w (H++Fr)):Calls Tryz.prog 55 #[.pointer (some ⟨b,0,none⟩),.int .i64 k] w fun e w'=>e=.returned (.bool (c.there k))∧w=w':=by
 have c3:=(h.heads hH).2.2.2.1
 have hcap:=h.caps
 unfold maxLen at hcap
 have hok:=h.cok
 have h32:=hok.2.2.2.2.2.1
 have h01:=hok.2.2.2.2.1
 clear h hok
 have HB:=Lib.hid (fun w=>nbetween_any k 0 ((c.blocks.length:Int) - 1) w)
 have HE:=Lib.hid (show decide (0≤k∧k≤(c.blocks.length:Int) - 1)=c.there k by unfold CM.there;congr 1;apply propext;omega)
 generalize c.blocks.length=n at *
 go_enter Tryz.func55,Tryz.ntmps55
 go_wp2_with fail
 refine (HB.out w).mono ?_
 rintro e wx ⟨rfl,rfl⟩
 rw [HE.out]
 go_wp2_with fail
 go_ret
 exact ⟨rfl,rfl⟩
set_option maxRecDepth 20000 in
theorem nraw_any (h:ChipAt b g cap mv c H) (hH:Holds w (H++Fr)):Calls Tryz.prog 72 #[.pointer (some ⟨b,0,none⟩)] w fun e w'=>e=.returned (.int .i64 ((c.Z:Int)+28))∧w=w':=by
 have c2:=(h.heads hH).2.2.1
 have hz:=h.cok.2.2.2.1
 clear h
 go_enter Tryz.func72,Tryz.ntmps72
 go_wp2_with fail
 go_ret
 exact ⟨rfl,rfl⟩
set_option maxRecDepth 20000 in
theorem ndark_any (h:ChipAt b g cap mv c H) (hH:Holds w (H++Fr)):Calls Tryz.prog 89 #[.pointer (some ⟨b,0,none⟩)] w (RetCh b g cap mv { c with on:=false } 4 w Fr):=by
 obtain ⟨_,_,_,_,_,c5,_,_,_,f5,_⟩:=h.heads hH
 obtain ⟨H',h',hH'⟩:=h.setOn hH false
 have HC:=Lib.hid h'
 have HH:=Lib.hid hH'
 clear h h' hH'
 go_enter Tryz.func89,Tryz.ntmps89
 go_wp2_with fail
 refine (nwrong_any 4 _ (H'++Fr) (by omega) HH.out).mono ?_
 rintro e w1 ⟨ve,He,rfl,he,hH1,hg1⟩
 have HE:=Lib.hid he;clear he
 go_wp2_with fail
 go_ret
 exact ⟨ve,H',He,rfl,HE.out,HC.out,hH1.swap,((Grew.refl w).setCell _ _).trans hg1⟩
theorem Holds.back1 {w:World} {p:Nat × Obj} {A R:HL} (h:Holds w (p::(A++R))):Holds w (A++(p::R)):=h.p
theorem Holds.set4 {w:World} {t:Nat} {a0 a1 a2 a3:Value} {T:TypeId} {F:HL} (h:Holds w ((t,.cells #[a0,a1,a2,a3] T)::F)) (v0 v1 v2 v3:Value) :
  Holds ((((w.setCell ⟨t,0,none⟩ v0).setCell ⟨t,1,none⟩ v1).setCell ⟨t,2,none⟩ v2).setCell ⟨t,3,none⟩ v3) ((t,.cells #[v0,v1,v2,v3] T)::F) :=
 Holds.set (Holds.set (Holds.set (Holds.set h 0 v0) 1 v1) 2 v2) 3 v3
theorem Grew.set4 {a w:World} (h:Grew a w) (t:Nat) (v0 v1 v2 v3:Value):Grew a ((((w.setCell ⟨t,0,none⟩ v0).setCell ⟨t,1,none⟩ v1).setCell ⟨t,2,none⟩ v2).setCell ⟨t,3,none⟩ v3):=(((h.setCell _ _).setCell _ _).setCell _ _).setCell _ _
theorem Holds.get4 {w:World} {t:Nat} {a0 a1 a2 a3:Value} {T:TypeId} {F:HL} (h:Holds w ((t,.cells #[a0,a1,a2,a3] T)::F)) :
  w.cell? ⟨t,0,none⟩=some a0∧w.cell? ⟨t,1,none⟩=some a1∧w.cell? ⟨t,2,none⟩=some a2∧w.cell? ⟨t,3,none⟩=some a3∧w.frozen? ⟨t,0,none⟩=false∧w.frozen? ⟨t,1,none⟩=false∧w.frozen? ⟨t,2,none⟩=false∧w.frozen? ⟨t,3,none⟩=false :=
 ⟨by simpa using h.hcell 0,by simpa using h.hcell 1,by simpa using h.hcell 2,by simpa using h.hcell 3,h.hfrozen 0,h.hfrozen 1,h.hfrozen 2,h.hfrozen 3⟩
def CM.mi (c:CM):Mi:=(miAt (c.ops+1) c.ms).getD Mi.zero
def CM.beg (c:CM) (good:Bool):CM × Mi × Int:=if c.on=false then (c,Mi.zero,4) else if good=false then (c,Mi.zero,2) else ({ c with ops:=c.ops+1 },c.mi,0)
def RetBeg (b g cap:Nat) (mv:Value) (r:CM × Mi × Int) (w:World) (Fr:HL) (e:Ending) (w':World):Prop :=
 ∃ ve H He G,e=.returned (.tuple #[r.2.1.agg,ve])∧IsErr ve r.2.2 He∧ChipAt b g cap mv r.1 H∧Holds w' (H++(He++(G++Fr)))∧Grew w w'
set_option maxRecDepth 20000 in
set_option maxHeartbeats 2000000 in
theorem nbegin_any (good:Bool) (h:ChipAt b g cap mv c H) (hH:Holds w (H++Fr)) (hops:c.ops≤1000000000000):Calls Tryz.prog 87 #[.pointer (some ⟨b,0,none⟩),.bool good] w (RetBeg b g cap mv (c.beg good) w Fr):=by
 have HI:=Lib.hid h
 have hres:Tryz.f87.results=#[ResultVar.cell 4 48,ResultVar.tmp 5]:=by rfl
 have hHA:=hH.alloc (.cells #[.int .i64 0,.int .i64 0,.int .i64 0,.int .u8 0] 48)
 have hGA:=(Grew.refl w).alloc (.cells #[.int .i64 0,.int .i64 0,.int .i64 0,.int .u8 0] 48)
 have HHD:=Lib.hid (fun (wx:World) (F:HL) (hx:Holds wx (H++F))=>h.heads hx)
 obtain ⟨c0,_,_,_,c4,c5,c6,_,_,f5,f6,_⟩:=h.heads hHA.tail
 have hk:=h.cok.2.2.2.2.2.2.2.2.1
 unfold CM.beg
 rcases (Bool.eq_false_or_eq_true c.on).symm with hon | hon
 ·rw [if_pos hon]
  rw [hon] at c5
  clear hon
  clear h hH
  go_enter Tryz.func87,Tryz.ntmps87
  go_wp2_with fail
  refine (nwrong_any 4 _ _ (by omega) hHA).mono ?_
  rintro e w1 ⟨ve,He,rfl,he,hH1,hg1⟩
  have HE:=Lib.hid he;clear he
  have hH2:Holds w1 ((w.heap.size,.cells #[.int .i64 0,.int .i64 0,.int .i64 0,.int .u8 0] 48)::(H++(He++([]++Fr)))):=hH1.p
  have hG1:=hGA.trans hg1
  generalize w.heap.size=t at *
  obtain ⟨z0,z1,z2,z3,g0,g1,g2,g3⟩:=hH2.get4
  clear hHA hH1 c0 c4 c5 c6 f5 f6
  go_wp2_with fail
  have hS:=hH2.set4 (.int .i64 0) (.int .i64 0) (.int .i64 0) (.int .u8 0)
  have hGS:=hG1.set4 t (.int .i64 0) (.int .i64 0) (.int .i64 0) (.int .u8 0)
  generalize (((w1.setCell ⟨t,0,none⟩ (.int .i64 0)).setCell ⟨t,1,none⟩ (.int .i64 0)).setCell ⟨t,2,none⟩ (.int .i64 0)).setCell ⟨t,3,none⟩ (.int .u8 0)=wf at *
  obtain ⟨u0,u1,u2,u3,_⟩:=hS.get4
  refine bodyPost_ret (v:=.tuple #[.agg #[.int .i64 0,.int .i64 0,.int .i64 0,.int .u8 0],ve]) ?_ rfl ⟨ve,H,He,[],rfl,HE.out,HI.out,hS.tail,hGS⟩
  unfold results
  rw [hres]
  go_simp
 ·rw [if_neg (by rw [hon];simp)]
  rw [hon] at c5
  clear hon
  cases good
  ·rw [if_pos rfl]
   clear h hH
   go_enter Tryz.func87,Tryz.ntmps87
   go_wp2_with fail
   refine (nwrong_any 2 _ _ (by omega) hHA).mono ?_
   rintro e w1 ⟨ve,He,rfl,he,hH1,hg1⟩
   have HE:=Lib.hid he;clear he
   have hH2:Holds w1 ((w.heap.size,.cells #[.int .i64 0,.int .i64 0,.int .i64 0,.int .u8 0] 48)::(H++(He++([]++Fr)))):=hH1.p
   have hG1:=hGA.trans hg1
   generalize w.heap.size=t at *
   obtain ⟨z0,z1,z2,z3,g0,g1,g2,g3⟩:=hH2.get4
   clear hHA hH1 c0 c4 c5 c6 f5 f6
   go_wp2_with fail
   have hS:=hH2.set4 (.int .i64 0) (.int .i64 0) (.int .i64 0) (.int .u8 0)
   have hGS:=hG1.set4 t (.int .i64 0) (.int .i64 0) (.int .i64 0) (.int .u8 0)
   generalize (((w1.setCell ⟨t,0,none⟩ (.int .i64 0)).setCell ⟨t,1,none⟩ (.int .i64 0)).setCell ⟨t,2,none⟩ (.int .i64 0)).setCell ⟨t,3,none⟩ (.int .u8 0)=wf at *
   obtain ⟨u0,u1,u2,u3,_⟩:=hS.get4
   refine bodyPost_ret (v:=.tuple #[.agg #[.int .i64 0,.int .i64 0,.int .i64 0,.int .u8 0],ve]) ?_ rfl ⟨ve,H,He,[],rfl,HE.out,HI.out,hS.tail,hGS⟩
   unfold results
   rw [hres]
   go_simp
  ·rw [if_neg (by simp)]
   obtain ⟨H',h',hH'⟩:=h.setOps (F:=(w.heap.size,.cells #[.int .i64 0,.int .i64 0,.int .i64 0,.int .u8 0] 48)::Fr) (hHA.p)
   have HC:=Lib.hid h'
   have HH:=Lib.hid hH'
   have HMI:=Lib.hid (show (miAt (c.ops+1) c.ms).getD Mi.zero=c.mi from rfl)
   clear h hH h' hH'
   go_enter Tryz.func87,Tryz.ntmps87
   go_upto_region 8 with fail
   have hHr:=HH.out
   have hgr:=hGA.setCell ⟨b,6,none⟩ (.int .i64 (c.ops+1))
   clear HH hGA hHA c0 c4 c5 c6 f5 f6
   generalize (w.alloc (.cells #[.int .i64 0,.int .i64 0,.int .i64 0,.int .u8 0] 48)).setCell ⟨b,6,none⟩ (.int .i64 (c.ops+1))=wA at *
   generalize w.heap.size=t at *
   obtain ⟨⟨ma,mk,mb,mf⟩,hm⟩:∃ m,m=c.mi:=⟨_,rfl⟩
   have HM:=Lib.hid (show (miAt (c.ops+1) c.ms).getD Mi.zero=⟨ma,mk,mb,mf⟩ from hm.symm)
   have HMI:=Lib.hid hm;clear hm
   have HS:=Lib.hid (fun (wx:World) (F:HL) (hx:Holds wx (H'++F))=>And.intro (HC.out.heads hx).2.2.2.2.1 (HC.out.heads hx).2.2.2.2.2.2.1)
   refine Y_begin (fun wx=>wx.cell? ⟨b,4,none⟩=some mv∧wx.cell? ⟨b,6,none⟩=some (.int .i64 (c.ops+1))) 13 (by kernel_rfl) (fun w1 hd=>HS.out _ _ (hHr.dr hd)) (fun w1 hd hs=>?_)
   have hC:=hHr.dr hd;have hG:=hgr.trans (Grew.dr hd);clear hd hHr hgr;obtain ⟨wc,rfl⟩:∃ x,x=w1:=⟨_,rfl⟩
   refine Yt 0 34 ?_ rfl hs ?_ ?_
   rotate_left
   ·intro wx;go_simp;try with_reducible rfl
   simp only [pt,sA,sS,sZ]
   refine Yt 1 35 ?_ rfl hs ?_ ?_
   rotate_left
   ·intro wx;go_simp;try with_reducible rfl
   simp only [pt,sA,sS,sZ]
   refine Yt 2 36 ?_ rfl hs ?_ ?_
   rotate_left
   ·intro wx;go_simp;try with_reducible rfl
   simp only [pt,sA,sS,sZ]
   refine Yd 3 37 ?_ rfl hs ?_ ?_
   rotate_left
   ·rintro wx ⟨x1,x2⟩;go_simp;try with_reducible rfl
   simp only [pt,sA,sS,sZ]
   refine Yt 4 38 ?_ rfl hs ?_ ?_
   rotate_left
   ·intro wx;go_simp;try with_reducible rfl
   simp only [pt,sA,sS,sZ]
   refine Yt 5 39 ?_ rfl hs ?_ ?_
   rotate_left
   ·intro wx;go_simp;try with_reducible rfl
   simp only [pt,sA,sS,sZ]
   refine Yt 6 40 ?_ rfl hs ?_ ?_
   rotate_left
   ·intro wx;go_simp;try with_reducible rfl
   simp only [pt,sA,sS,sZ]
   refine Yd 7 41 ?_ rfl hs ?_ ?_
   rotate_left
   ·rintro wx ⟨x1,x2⟩;go_simp;try with_reducible rfl
   simp only [pt,sA,sS,sZ]
   refine Y_two 8 12 rfl rfl (by kernel_rfl) (fun K hK=>?_) (fun K hK=>?_)
   have ⟨x1,x2⟩:=hs
   go_simp;have hmat:=mat_any (c.ops+1) mv c.ms wc _ (fun wx hx=>HC.out.mis hx) hC;rw [HM.out] at hmat;simp only [Mi.agg,cellB] at hmat;refine hmat.mono ?_;clear hmat;rintro e wq ⟨rfl,hC8,gg8⟩
   clear x1 x2
   refine hK _ _ (HS.out _ _ hC8) (fun hs2=>?_);clear hK K hs;have hs:=hs2;clear hs2
   have hG2:=hG.trans gg8;clear hC hG gg8;have hC:=hC8;have hG:=hG2;clear hC8 hG2;clear wc;obtain ⟨wc,rfl⟩:∃ x,x=wq:=⟨_,rfl⟩
   refine Yt 9 33 ?_ rfl hs ?_ ?_
   rotate_left
   ·intro wx;go_simp;try with_reducible rfl
   simp only [pt,sA,sS,sZ]
   refine Yt 10 43 ?_ rfl hs ?_ ?_
   rotate_left
   ·intro wx;go_simp;try with_reducible rfl
   simp only [pt,sA,sS,sZ]
   refine Yt 11 44 ?_ rfl hs ?_ ?_
   rotate_left
   ·intro wx;go_simp;try with_reducible rfl
   simp only [pt,sA,sS,sZ]
   refine Y_mid 12 rfl (by kernel_rfl) (fun K hK=>?_)
   have ⟨x1,x2⟩:=hs
   go_simp
   clear x1 x2
   refine hK _ _ (HS.out _ _ (Holds.back1 (hC.alloc _))) (fun hs2=>?_);clear hK K hs;have hs:=hs2;clear hs2
   have hC2:=Holds.back1 (hC.alloc (.cells #[.int .i64 0,.int .i64 0,.int .i64 0,.int .u8 0] 48));have hG2:=hG.alloc (.cells #[.int .i64 0,.int .i64 0,.int .i64 0,.int .u8 0] 48);clear hC hG;generalize wc.alloc (.cells #[.int .i64 0,.int .i64 0,.int .i64 0,.int .u8 0] 48)=wq at *;generalize wc.heap.size=g12 at *;clear wc;have hC:=hC2;have hG:=hG2;clear hC2 hG2;obtain ⟨wc,rfl⟩:∃ x,x=wq:=⟨_,rfl⟩
   refine Y_late 13 rfl (by kernel_rfl) (by kernel_rfl) (fun K hK=>?_)
   have ⟨x1,x2⟩:=hs
   have hD:Holds wc ((g12,.cells #[.int .i64 0,.int .i64 0,.int .i64 0,.int .u8 0] 48)::((t,.cells #[.int .i64 0,.int .i64 0,.int .i64 0,.int .u8 0] 48)::(H'++Fr))):=hC.p;obtain ⟨z0,z1,z2,z3,g0,g1,g2,g3⟩:=hD.get4;go_simp;clear z0 z1 z2 z3 g0 g1 g2 g3 hC
   clear x1 x2 hs
   refine hK _ _ ?_;clear hK K
   refine Y_late 14 rfl (by kernel_rfl) (by kernel_rfl) (fun K hK=>?_)
   go_simp
   refine hK _ _ ?_;clear hK K
   refine Y_done (by kernel_rfl) ?_ _
   rotate_left
   have ⟨x1,x2⟩:=hs
   go_simp
   clear x1 x2
   refine hK _ _ (HS.out _ _ (Holds.back1 (hC.alloc _))) (fun hs2=>?_);clear hK K hs;have hs:=hs2;clear hs2
   have hC2:=Holds.back1 (hC.alloc (.cells #[.int .i64 0,.int .i64 0,.int .i64 0,.int .u8 0] 48));have hG2:=hG.alloc (.cells #[.int .i64 0,.int .i64 0,.int .i64 0,.int .u8 0] 48);clear hC hG;generalize wc.alloc (.cells #[.int .i64 0,.int .i64 0,.int .i64 0,.int .u8 0] 48)=wq at *;generalize wc.heap.size=g12 at *;clear wc;have hC:=hC2;have hG:=hG2;clear hC2 hG2;obtain ⟨wc,rfl⟩:∃ x,x=wq:=⟨_,rfl⟩
   refine Y_mid 8 rfl (by kernel_rfl) (fun K hK=>?_)
   have ⟨x1,x2⟩:=hs
   go_simp;have hmat:=mat_any (c.ops+1) mv c.ms wc _ (fun wx hx=>HC.out.mis hx) hC;rw [HM.out] at hmat;simp only [Mi.agg,cellB] at hmat;refine hmat.mono ?_;clear hmat;rintro e wq ⟨rfl,hC8,gg8⟩
   clear x1 x2
   refine hK _ _ (HS.out _ _ hC8) (fun hs2=>?_);clear hK K hs;have hs:=hs2;clear hs2
   have hG2:=hG.trans gg8;clear hC hG gg8;have hC:=hC8;have hG:=hG2;clear hC8 hG2;clear wc;obtain ⟨wc,rfl⟩:∃ x,x=wq:=⟨_,rfl⟩
   refine Yt 9 33 ?_ rfl hs ?_ ?_
   rotate_left
   ·intro wx;go_simp;try with_reducible rfl
   simp only [pt,sA,sS,sZ]
   refine Yt 10 43 ?_ rfl hs ?_ ?_
   rotate_left
   ·intro wx;go_simp;try with_reducible rfl
   simp only [pt,sA,sS,sZ]
   refine Yt 11 44 ?_ rfl hs ?_ ?_
   rotate_left
   ·intro wx;go_simp;try with_reducible rfl
   simp only [pt,sA,sS,sZ]
   refine Y_late 13 rfl (by kernel_rfl) (by kernel_rfl) (fun K hK=>?_)
   have ⟨x1,x2⟩:=hs
   have hD:Holds wc ((g12,.cells #[.int .i64 0,.int .i64 0,.int .i64 0,.int .u8 0] 48)::((t,.cells #[.int .i64 0,.int .i64 0,.int .i64 0,.int .u8 0] 48)::(H'++Fr))):=hC.p;obtain ⟨z0,z1,z2,z3,g0,g1,g2,g3⟩:=hD.get4;go_simp;clear z0 z1 z2 z3 g0 g1 g2 g3 hC
   clear x1 x2 hs
   refine hK _ _ ?_;clear hK K
   refine Y_late 14 rfl (by kernel_rfl) (by kernel_rfl) (fun K hK=>?_)
   go_simp
   refine hK _ _ ?_;clear hK K
   refine Y_done (by kernel_rfl) ?_ _
   rotate_left
   all_goals
    have hE:=hD.set4 (.int .i64 ma) (.int .i64 mk) (.int .i64 mb) (.int .u8 (mf.toNat:Int))
    have hGE:=hG.set4 g12 (.int .i64 ma) (.int .i64 mk) (.int .i64 mb) (.int .u8 (mf.toNat:Int))
    generalize (((wc.setCell ⟨g12,0,none⟩ (.int .i64 ma)).setCell ⟨g12,1,none⟩ (.int .i64 mk)).setCell ⟨g12,2,none⟩ (.int .i64 mb)).setCell ⟨g12,3,none⟩ (.int .u8 (mf.toNat:Int))=wb at *
    obtain ⟨z0,z1,z2,z3,_⟩:=hE.get4
    have hE2:Holds wb ((t,.cells #[.int .i64 0,.int .i64 0,.int .i64 0,.int .u8 0] 48)::(H'++([]++([(g12,.cells #[.int .i64 ma,.int .i64 mk,.int .i64 mb,.int .u8 (mf.toNat:Int)] 48)]++Fr)))):=hE.p
    obtain ⟨v0,v1,v2,v3,g0,g1,g2,g3⟩:=hE2.get4
    clear hD hG hE
    go_wp2_with fail
    have hS:=hE2.set4 (.int .i64 ma) (.int .i64 mk) (.int .i64 mb) (.int .u8 (mf.toNat:Int))
    have hGS:=hGE.set4 t (.int .i64 ma) (.int .i64 mk) (.int .i64 mb) (.int .u8 (mf.toNat:Int))
    generalize (((wb.setCell ⟨t,0,none⟩ (.int .i64 ma)).setCell ⟨t,1,none⟩ (.int .i64 mk)).setCell ⟨t,2,none⟩ (.int .i64 mb)).setCell ⟨t,3,none⟩ (.int .u8 (mf.toNat:Int))=wf at *
    obtain ⟨u0,u1,u2,u3,_⟩:=hS.get4
    refine bodyPost_ret (v:=.tuple #[.agg #[.int .i64 ma,.int .i64 mk,.int .i64 mb,.int .u8 (mf.toNat:Int)],.nilIface]) ?_ rfl ⟨.nilIface,H',[],_,by rw [← HMI.out];rfl,IsErr.none,HC.out,hS.tail,hGS⟩
    unfold results
    rw [hres]
    go_simp
def CM.ord (c:CM) (m:Mi) (good:Bool):CM × Int:=if good=true then (c,0) else if m.kind=2 then ({ c with misuse:=c.misuse+1,on:=false },4) else ({ c with misuse:=c.misuse+1 },6)
set_option maxRecDepth 20000 in
set_option maxHeartbeats 1000000 in
theorem nordered_any (ma mk mb:Int) (mf:UInt8) (good:Bool) (h:ChipAt b g cap mv c H) (hH:Holds w (H++Fr)) (hops:c.ops≤1000000000000) (hmu:good=false→c.misuse+1≤c.ops) :
  Calls Tryz.prog 88 #[.pointer (some ⟨b,0,none⟩),.agg #[.int .i64 ma,.int .i64 mk,.int .i64 mb,.int .u8 (mf.toNat:Int)],.bool good] w (fun e w'=>∃ G,RetCh b g cap mv (c.ord ⟨ma,mk,mb,mf⟩ good).1 (c.ord ⟨ma,mk,mb,mf⟩ good).2 w (G++Fr) e w'):=by
 have HI:=Lib.hid h
 have hHA:=hH.alloc (.cells #[.int .i64 ma,.int .i64 mk,.int .i64 mb,.int .u8 (mf.toNat:Int)] 48)
 have hGA:=(Grew.refl w).alloc (.cells #[.int .i64 ma,.int .i64 mk,.int .i64 mb,.int .u8 (mf.toNat:Int)] 48)
 have hHB:Holds (w.alloc (.cells #[.int .i64 ma,.int .i64 mk,.int .i64 mb,.int .u8 (mf.toNat:Int)] 48)) (H++([(w.heap.size,.cells #[.int .i64 ma,.int .i64 mk,.int .i64 mb,.int .u8 (mf.toNat:Int)] 48)]++Fr)):=hHA.p
 have hm0:=h.cok.2.2.2.2.2.2.2.2.2.1
 obtain ⟨_,_,_,_,_,_,_,c7,_,_,_,f7,_⟩:=h.heads hHB
 obtain ⟨z0,z1,z2,z3,_⟩:=hHA.get4
 cases good
 ·have hmu:=hmu rfl
  obtain ⟨H',h',hH'⟩:=h.setMisuse hHB (c.misuse+1) (by omega) hmu
  have HC:=Lib.hid h'
  have HH:=Lib.hid hH'
  clear h h' hH'
  by_cases hk:mk=2
  ·have e1:(mk == 2)=true:=by simp [hk]
   have hr:c.ord ⟨ma,mk,mb,mf⟩ false=({ c with misuse:=c.misuse+1,on:=false },4):=by unfold CM.ord;rw [if_neg (by simp),if_pos hk]
   rw [hr]
   clear hk hr
   go_enter Tryz.func88,Tryz.ntmps88
   go_wp2_with fail
   refine (ndark_any HC.out HH.out).mono ?_
   rintro e w1 ⟨ve,H1,He,rfl,he,hc1,hH1,hg1⟩
   have HE:=Lib.hid he
   have HC1:=Lib.hid hc1
   clear he hc1
   go_wp2_with fail
   go_ret
   exact ⟨_,ve,H1,He,rfl,HE.out,HC1.out,hH1,(hGA.setCell _ _).trans hg1⟩
  ·have e1:(mk == 2)=false:=by simpa using hk
   have hr:c.ord ⟨ma,mk,mb,mf⟩ false=({ c with misuse:=c.misuse+1 },6):=by unfold CM.ord;rw [if_neg (by simp),if_neg hk]
   rw [hr]
   clear hk hr
   go_enter Tryz.func88,Tryz.ntmps88
   go_wp2_with fail
   refine (nwrong_any 6 _ _ (by omega) HH.out).mono ?_
   rintro e w1 ⟨ve,He,rfl,he,hH1,hg1⟩
   have HE:=Lib.hid he
   clear he
   go_wp2_with fail
   go_ret
   exact ⟨_,ve,H',He,rfl,HE.out,HC.out,hH1.swap,(hGA.setCell _ _).trans hg1⟩
 ·have hr:c.ord ⟨ma,mk,mb,mf⟩ true=(c,0):=rfl
  rw [hr]
  clear h hmu hr
  go_enter Tryz.func88,Tryz.ntmps88
  go_wp2_with fail
  go_ret
  exact ⟨[(w.heap.size,.cells #[.int .i64 ma,.int .i64 mk,.int .i64 mb,.int .u8 (mf.toNat:Int)] 48)],.nilIface,H,[],rfl,IsErr.none,HI.out,hHB,hGA⟩
set_option maxRecDepth 20000 in
theorem non_any (h:ChipAt b g cap mv c H) (hH:Holds w (H++Fr)):Calls Tryz.prog 42 #[.pointer (some ⟨b,0,none⟩)] w fun e w'=>e=.returned (.bool c.on)∧w=w':=by
 have a:=h.heads hH
 obtain ⟨c0,c1,c2,c3,c4,c5,c6,c7,c8,_⟩:=a
 clear h
 go_enter Tryz.func42,Tryz.ntmps42
 go_wp2_with fail
 go_ret
 exact ⟨rfl,rfl⟩
set_option maxRecDepth 20000 in
theorem nmisuse_any (h:ChipAt b g cap mv c H) (hH:Holds w (H++Fr)):Calls Tryz.prog 19 #[.pointer (some ⟨b,0,none⟩)] w fun e w'=>e=.returned (.int .i64 c.misuse)∧w=w':=by
 have a:=h.heads hH
 obtain ⟨c0,c1,c2,c3,c4,c5,c6,c7,c8,_⟩:=a
 clear h
 go_enter Tryz.func19,Tryz.ntmps19
 go_wp2_with fail
 go_ret
 exact ⟨rfl,rfl⟩
def CM.blk (c:CM) (k:Int):Option CB:=if 0≤k∧k<(c.blocks.length:Int) then c.blocks[k.toNat]? else none
theorem CM.blk_some {c:CM} {k:Int} {x:CB} (h:c.blk k=some x):∃ i:Nat,k=(i:Int)∧i<c.blocks.length∧c.blocks[i]?=some x∧c.there k=true:=by
 unfold CM.blk at h
 split at h
 ·rename_i hk
  obtain ⟨i,rfl⟩:=Int.eq_ofNat_of_zero_le hk.1
  exact ⟨i,rfl,by omega,by simpa using h,by unfold CM.there;exact decide_eq_true hk⟩
 ·cases h
theorem CM.blk_none {c:CM} {k:Int} (h:c.blk k=none):c.there k=false:=by
 unfold CM.there
 refine decide_eq_false fun hk=>?_
 unfold CM.blk at h
 rw [if_pos hk] at h
 have:k.toNat<c.blocks.length:=by omega
 simp [this] at h
theorem CM.blk_nat {c:CM} {k:Nat} {x:CB} (h:c.blocks[k]?=some x):c.blk (k:Int)=some x:=by
 have:=(List.getElem?_eq_some_iff.1 h).1
 unfold CM.blk
 rw [if_pos ⟨by omega,by omega⟩]
 simpa using h
def CM.nextOf (c:CM) (k:Int):Int:=match c.blk k with | some x=>x.next | none=>0
def CM.wearOf (c:CM) (k:Int):Int:=match c.blk k with | some x=>x.wear | none=>0
def CM.markOf (c:CM) (k:Int):Bool:=match c.blk k with | some x=>x.mark | none=>false
set_option maxRecDepth 20000 in
theorem nnext_any (k:Int) (h:ChipAt b g cap mv c H) (hH:Holds w (H++Fr)):Calls Tryz.prog 74 #[.pointer (some ⟨b,0,none⟩),.int .i64 k] w fun e w'=>e=.returned (.int .i64 (c.nextOf k))∧w=w':=by
 have HT:=Lib.hid (nthere_any (w:=w) k h hH)
 cases hb:c.blk k with
 |none =>
  rw [show c.nextOf k=0 by unfold CM.nextOf;rw [hb]]
  rw [CM.blk_none hb] at HT
  clear hb h
  go_enter Tryz.func74,Tryz.ntmps74
  go_wp2_with fail
  refine HT.out.mono ?_
  rintro e wx ⟨rfl,rfl⟩
  go_wp2_with fail
  go_ret
  exact ⟨rfl,rfl⟩
 |some x =>
  rw [show c.nextOf k=x.next by unfold CM.nextOf;rw [hb]]
  obtain ⟨i,rfl,hi,hx,ht⟩:=CM.blk_some hb
  rw [ht] at HT
  obtain ⟨pv,hB⟩:=h.open_ hx
  obtain ⟨_,_,_,c3,_⟩:=h.heads hH
  obtain ⟨d0,d1,d2,d3,d4,_⟩:=hB.cells w Fr hH
  have hcap:=h.caps
  unfold maxLen at hcap
  have h32:=h.cok.2.2.2.2.2.1
  clear hb h hB hx ht
  generalize c.blocks.length=n at *
  go_enter Tryz.func74,Tryz.ntmps74
  go_wp2_with fail
  refine HT.out.mono ?_
  rintro e wx ⟨rfl,rfl⟩
  go_wp2_with fail
  go_ret
  exact ⟨rfl,rfl⟩
set_option maxRecDepth 20000 in
theorem nwear_any (k:Int) (h:ChipAt b g cap mv c H) (hH:Holds w (H++Fr)):Calls Tryz.prog 18 #[.pointer (some ⟨b,0,none⟩),.int .i64 k] w fun e w'=>e=.returned (.int .i64 (c.wearOf k))∧w=w':=by
 have HT:=Lib.hid (nthere_any (w:=w) k h hH)
 cases hb:c.blk k with
 |none =>
  rw [show c.wearOf k=0 by unfold CM.wearOf;rw [hb]]
  rw [CM.blk_none hb] at HT
  clear hb h
  go_enter Tryz.func18,Tryz.ntmps18
  go_wp2_with fail
  refine HT.out.mono ?_
  rintro e wx ⟨rfl,rfl⟩
  go_wp2_with fail
  go_ret
  exact ⟨rfl,rfl⟩
 |some x =>
  rw [show c.wearOf k=x.wear by unfold CM.wearOf;rw [hb]]
  obtain ⟨i,rfl,hi,hx,ht⟩:=CM.blk_some hb
  rw [ht] at HT
  obtain ⟨pv,hB⟩:=h.open_ hx
  obtain ⟨_,_,_,c3,_⟩:=h.heads hH
  obtain ⟨d0,d1,d2,d3,d4,_⟩:=hB.cells w Fr hH
  have hcap:=h.caps
  unfold maxLen at hcap
  have h32:=h.cok.2.2.2.2.2.1
  clear hb h hB hx ht
  generalize c.blocks.length=n at *
  go_enter Tryz.func18,Tryz.ntmps18
  go_wp2_with fail
  refine HT.out.mono ?_
  rintro e wx ⟨rfl,rfl⟩
  go_wp2_with fail
  go_ret
  exact ⟨rfl,rfl⟩
set_option maxRecDepth 20000 in
theorem nmarked_any (k:Int) (h:ChipAt b g cap mv c H) (hH:Holds w (H++Fr)):Calls Tryz.prog 22 #[.pointer (some ⟨b,0,none⟩),.int .i64 k] w fun e w'=>e=.returned (.bool (c.markOf k))∧w=w':=by
 have HT:=Lib.hid (nthere_any (w:=w) k h hH)
 cases hb:c.blk k with
 |none =>
  rw [show c.markOf k=false by unfold CM.markOf;rw [hb]]
  rw [CM.blk_none hb] at HT
  clear hb h
  go_enter Tryz.func22,Tryz.ntmps22
  go_wp2_with fail
  refine HT.out.mono ?_
  rintro e wx ⟨rfl,rfl⟩
  go_wp2_with fail
  go_ret
  exact ⟨rfl,rfl⟩
 |some x =>
  rw [show c.markOf k=x.mark by unfold CM.markOf;rw [hb]]
  obtain ⟨i,rfl,hi,hx,ht⟩:=CM.blk_some hb
  rw [ht] at HT
  obtain ⟨pv,hB⟩:=h.open_ hx
  obtain ⟨_,_,_,c3,_⟩:=h.heads hH
  obtain ⟨d0,d1,d2,d3,d4,_⟩:=hB.cells w Fr hH
  have hcap:=h.caps
  unfold maxLen at hcap
  have h32:=h.cok.2.2.2.2.2.1
  clear hb h hB hx ht
  generalize c.blocks.length=n at *
  go_enter Tryz.func22,Tryz.ntmps22
  go_wp2_with fail
  refine HT.out.mono ?_
  rintro e wx ⟨rfl,rfl⟩
  go_wp2_with fail
  go_ret
  exact ⟨rfl,rfl⟩
set_option maxRecDepth 20000 in
theorem nboot_any (h:ChipAt b g cap mv c H) (hH:Holds w (H++Fr)):Calls Tryz.prog 62 #[.pointer (some ⟨b,0,none⟩)] w (RetCh b g cap mv { c with on:=true } (if c.on=true then 9 else 0) w Fr):=by
 have HI:=Lib.hid h
 obtain ⟨_,_,_,_,_,c5,_,_,_,f5,_⟩:=h.heads hH
 rcases (Bool.eq_false_or_eq_true c.on).symm with hon | hon
 ·rw [if_neg (by rw [hon];simp)]
  rw [hon] at c5
  obtain ⟨H',h',hH'⟩:=h.setOn hH true
  have HC:=Lib.hid h'
  have HH:=Lib.hid hH'
  clear h h' hH' hon
  go_enter Tryz.func62,Tryz.ntmps62
  go_wp2_with fail
  go_ret
  exact ⟨.nilIface,H',[],rfl,IsErr.none,HC.out,HH.out,(Grew.refl w).setCell _ _⟩
 ·rw [if_pos hon]
  rw [hon] at c5
  have HE0:=Lib.hid (show ({ c with on:=true }:CM)=c by rw [← hon])
  clear h hon
  go_enter Tryz.func62,Tryz.ntmps62
  go_wp2_with fail
  refine (nwrong_any 9 _ _ (by omega) hH).mono ?_
  rintro e w1 ⟨ve,He,rfl,he,hH1,hg1⟩
  have HE:=Lib.hid he
  clear he
  go_wp2_with fail
  go_ret
  exact ⟨ve,H,He,rfl,HE.out,by rw [HE0.out];exact HI.out,hH1.swap,hg1⟩
end
end Go.Proofs.YtoelopghilbfeaaGreat
namespace Go.Proofs.YtoelopghilbfeaaGreat
open Go.RowKit
set_option linter.unusedSimpArgs false
set_option linter.unusedVariables false
def CM.pageOf (c:CM) (k p:Int):List UInt8:=match c.blk k with | some x=>x.pages.getD p.toNat [] | none=>[]
def CM.pgood (c:CM) (k p:Int):Bool:=c.there k && decide (0≤p∧p≤(c.P:Int) - 1)
theorem beg_err {c:CM} {good:Bool} (h:(c.beg good).2.2=0):good=true∧c.on=true∧c.beg good=({ c with ops:=c.ops+1 },c.mi,0):=by
 unfold CM.beg at h ⊢
 cases hon:c.on
 ·rw [hon,if_pos rfl] at h;exact absurd h (by simp)
 ·rw [hon,if_neg (by simp)] at h
  cases good
  ·rw [if_pos rfl] at h;exact absurd h (by simp)
  ·exact ⟨rfl,rfl,by rw [if_neg (by simp),if_neg (by simp),← hon]⟩
def CM.read (c:CM) (k p:Int):CM × List UInt8 × Int :=
 let r:=c.beg (c.pgood k p)
 if r.2.2≠0 then (r.1,[],r.2.2) else if r.2.1.kind=2 then ({ r.1 with on:=false },[],4) else (r.1,c.pageOf k p,0)
def RetRd (b g cap:Nat) (mv:Value) (r:CM × List UInt8 × Int) (w:World) (Fr:HL) (e:Ending) (w':World):Prop :=
 ∃ v ve H Hv He G,e=.returned (.tuple #[v,ve])∧IsBytes v r.2.1 Hv∧IsErr ve r.2.2 He∧ChipAt b g cap mv r.1 H∧Holds w' (H++(Hv++(He++(G++Fr))))∧Grew w w'
def RetChG (b g cap:Nat) (mv:Value) (r:CM × Int) (w:World) (Fr:HL) (e:Ending) (w':World):Prop:=∃ G,RetCh b g cap mv r.1 r.2 w (G++Fr) e w'
theorem isErr0 {v:Value} {H:HL} (h:IsErr v 0 H):v=.nilIface∧H=[]:=by
 rcases h with ⟨_,h1,h2⟩ | ⟨h0,_⟩
 ·exact ⟨h1,h2⟩
 ·exact absurd rfl h0
theorem isErrP8 {v:Value} {c:Int} {H:HL} (h:IsErr v c H) (hc:c≠0):∃ b s,v=.iface 117 (.pointer (some ⟨b,0,none⟩))∧H=[(b,.cells #[.int .i64 c,.string s] 119)]:=by
 rcases h with ⟨h1,_⟩ | ⟨_,h⟩
 ·exact absurd h1 hc
 ·exact h
section
variable {b g cap:Nat} {mv:Value} {c:CM} {H Fr:HL} {w:World}
theorem ChipAt.page (h:ChipAt b g cap mv c H) {k i:Nat} {x:CB} (hx:c.blocks[k]?=some x) (hi:i<c.P):∃ gp cp A q,q≤maxLen∧cp≤maxLen∧c.P≤cp∧c.Z+28≤q∧∀ (w:World) (F:HL),Holds w (H++F) →
  w.cell? ⟨g,k * 5,none⟩=some (.slice (some ⟨gp,0,none⟩) c.P cp)∧w.cell? ⟨gp,i,none⟩=some (.slice (some ⟨A,0,none⟩) (c.Z+28) q)∧BytesAt w (.slice (some ⟨A,0,none⟩) (c.Z+28) q) (x.pages.getD i [])∧(x.pages.getD i []).length=c.Z+28:=by
 obtain ⟨pv,hB⟩:=h.open_ hx
 obtain ⟨Hp,Hr,hbys,hop,_⟩:=hB.pages
 have hl:=hB.ok.1
 have hpi:x.pages[i]?=some x.pages[i]:=List.getElem?_eq_getElem (by omega)
 have hgd:x.pages.getD i []=x.pages[i]:=by simp [List.getD,show i<x.pages.length by omega]
 have hzl:(x.pages[i]).length=c.Z+28:=hB.ok.2.1 _ (List.getElem_mem _)
 obtain ⟨gp,cp,cs,Hi,Hr2,rfl,hc1,hc2,_,hcl,⟨v,rfl,hbv⟩,hcell,hopen,_⟩:=Rows2.open2 hbys hpi
 have hbv2:=hbv
 have hZ:=h.cok.2.2.1
 rcases hbv2.2 with ⟨_,h0,_⟩ | ⟨A,q,cur,fz,rfl,hq1,hq2,_⟩
 ·rw [hzl] at h0;omega
 ·rw [hgd,hzl] at *
  refine ⟨gp,cp,A,q,hq2,hc2,by omega,hq1,fun w F hH=>?_⟩
  have h1:=hop w F hH
  have h2:=hopen w _ h1
  have e0:=((hcell w _ h2.right).2 0 (by omega)).1
  refine ⟨by rw [← hl];exact (hB.cells w F hH).1,by simpa using e0,hbv.at_ h2,rfl⟩
set_option maxRecDepth 20000 in
set_option maxHeartbeats 2000000 in
theorem nread_any (k p:Int) (h:ChipAt b g cap mv c H) (hH:Holds w (H++Fr)) (hops:c.ops≤1000000000000) :
  Calls Tryz.prog 56 #[.pointer (some ⟨b,0,none⟩),.int .i64 k,.int .i64 p] w (RetRd b g cap mv (c.read k p) w Fr):=by
 have HT:=Lib.hid (nthere_any (w:=w) k h hH)
 have HBT:=Lib.hid (nbetween_any p 0 ((c.P:Int) - 1) w)
 obtain ⟨_,c1,_⟩:=h.heads hH
 have hp1:=h.cok.1
 have hp8:=h.cok.2.1
 have hZ:=h.cok.2.2.2.1
 have h32:=h.cok.2.2.2.2.2.1
 have hcap:=h.caps
 unfold maxLen at hcap
 have HBG:=Lib.hid (fun good=>nbegin_any (w:=w) good h hH hops)
 have HPG:=Lib.hid (show ∀ good,c.pgood k p=good→c.read k p=if (c.beg good).2.2≠0 then ((c.beg good).1,[],(c.beg good).2.2) else if (c.beg good).2.1.kind=2 then ({ (c.beg good).1 with on:=false },[],4) else ((c.beg good).1,c.pageOf k p,0) from fun good hg=>by unfold CM.read;rw [hg])
 have k1:=err_ne
 have k2:=nil_ne
 obtain ⟨P,hPe⟩:∃ P,P=c.P:=⟨_,rfl⟩
 rw [← hPe] at c1 HBT hp1 hp8
 have HPe:=Lib.hid hPe;clear hPe
 cases hth:c.there k
 ·rw [hth] at HT
  clear h
  go_enter Tryz.func56,Tryz.ntmps56
  go_wp2_with fail
  refine HT.out.mono ?_
  rintro e wx ⟨rfl,rfl⟩
  clear HT
  go_wp2_with fail
  refine (HBG.out false).mono ?_
  rintro e w1 ⟨ve,H1,He,G,rfl,he,hc1,hH1,hg1⟩
  have hbe:=fun h0=>beg_err (c:=c) (good:=false) h0
  have hrd:=HPG.out false (by unfold CM.pgood;rw [hth];rfl)
  have HRD:=Lib.hid hrd
  have HBE:=Lib.hid hbe
  obtain ⟨⟨c9,⟨ma,mk,mb,mf⟩,ec⟩,hr9⟩:∃ r,r=c.beg false:=⟨_,rfl⟩
  rw [← hr9] at he hc1 HRD HBE ⊢
  simp only [Mi.agg,cellB] at he hc1 HRD HBE ⊢
  have HC1:=Lib.hid hc1
  clear hc1 hbe hrd hr9 HPG HBG
  have hHA:=hH1.alloc (.cells #[.int .i64 ma,.int .i64 mk,.int .i64 mb,.int .u8 (mf.toNat:Int)] 48)
  have hGA:=hg1.alloc (.cells #[.int .i64 ma,.int .i64 mk,.int .i64 mb,.int .u8 (mf.toNat:Int)] 48)
  by_cases he0:ec=0
  ·exact absurd (HBE.out he0).1 (by simp)
  ·obtain ⟨b9,s9,rfl,_⟩:=isErrP8 he he0
   have HRD2:=Lib.hid (show c.read k p=(c9,[],ec) by rw [HRD.out,if_pos he0])
   have HE:=Lib.hid he
   clear he HRD HBE he0
   go_wp2_with fail
   go_ret2
   rw [HRD2.out]
   exact ⟨_,_,H1,[],He,G++[(w1.heap.size,.cells #[.int .i64 ma,.int .i64 mk,.int .i64 mb,.int .u8 (mf.toNat:Int)] 48)],rfl,IsRow.nil _ _,HE.out,HC1.out,hHA.p,hGA⟩
 ·rw [hth] at HT
  clear h
  go_enter Tryz.func56,Tryz.ntmps56
  go_wp2_with fail
  refine HT.out.mono ?_
  rintro e wx ⟨rfl,rfl⟩
  clear HT
  go_wp2_with fail
  refine HBT.out.mono ?_
  rintro e wx ⟨rfl,rfl⟩
  clear HBT
  obtain ⟨gd,hgde⟩:∃ gd,gd=decide ((0:Int)≤p∧p≤(P:Int) - 1):=⟨_,rfl⟩
  rw [← hgde]
  have HGDE:=Lib.hid hgde;clear hgde
  go_wp2_with fail
  refine (HBG.out gd).mono ?_
  rintro e w1 ⟨ve,H1,He,G,rfl,he,hc1,hH1,hg1⟩
  have hbe:=fun h0=>beg_err (c:=c) (good:=gd) h0
  have hrd:=HPG.out gd (by unfold CM.pgood;rw [hth,HGDE.out,HPe.out];rfl)
  have HRD:=Lib.hid hrd
  have HBE:=Lib.hid hbe
  obtain ⟨⟨c9,⟨ma,mk,mb,mf⟩,ec⟩,hr9⟩:∃ r,r=c.beg gd:=⟨_,rfl⟩
  rw [← hr9] at he hc1 HRD HBE ⊢
  simp only [Mi.agg,cellB] at he hc1 HRD HBE ⊢
  have HC1:=Lib.hid hc1
  clear hc1 hbe hrd hr9 HPG HBG
  have hHA:=hH1.alloc (.cells #[.int .i64 ma,.int .i64 mk,.int .i64 mb,.int .u8 (mf.toNat:Int)] 48)
  have hGA:=hg1.alloc (.cells #[.int .i64 ma,.int .i64 mk,.int .i64 mb,.int .u8 (mf.toNat:Int)] 48)
  by_cases he0:ec=0
  ·subst he0
   obtain ⟨rfl,rfl⟩:=isErr0 he
   have hon:=(HBE.out rfl).2.1
   have hgd:=(HBE.out rfl).1
   have h9:=(HBE.out rfl).2.2
   obtain ⟨z0,z1,z2,z3,_⟩:=hHA.get4
   by_cases hk2:mk=2
   ·subst hk2
    have HRD2:=Lib.hid (show c.read k p=({ c9 with on:=false },[],4) by rw [HRD.out,if_neg (by simp),if_pos rfl])
    clear HRD HBE h9 hgd hon he
    go_wp2_with fail
    refine (ndark_any HC1.out (Fr:=([]:HL)++(G++((w1.heap.size,.cells #[.int .i64 ma,.int .i64 2,.int .i64 mb,.int .u8 (mf.toNat:Int)] 48)::Fr))) (hHA.p)).mono ?_
    rintro e w2 ⟨ve2,H2,He2,rfl,he2,hc2,hH2,hg2⟩
    have HE2:=Lib.hid he2
    have HC2:=Lib.hid hc2
    clear he2 hc2
    go_wp2_with fail
    go_ret2
    rw [HRD2.out]
    exact ⟨_,ve2,H2,[],He2,G++[(w1.heap.size,.cells #[.int .i64 ma,.int .i64 2,.int .i64 mb,.int .u8 (mf.toNat:Int)] 48)],rfl,IsRow.nil _ _,HE2.out,HC2.out,hH2.p,hGA.trans hg2⟩
   ·have hk2':(mk == 2)=false:=by simpa using hk2
    have HRD2:=Lib.hid (show c.read k p=(c9,c.pageOf k p,0) by rw [HRD.out,if_neg (by simp),if_neg hk2])
    injection h9 with h9 _
    have hp:(0:Int)≤p∧p≤(P:Int) - 1:=of_decide_eq_true (by rw [← HGDE.out];exact hgd)
    have hHB:Holds (w1.alloc (.cells #[.int .i64 ma,.int .i64 mk,.int .i64 mb,.int .u8 (mf.toNat:Int)] 48)) (H1++(G++((w1.heap.size,.cells #[.int .i64 ma,.int .i64 mk,.int .i64 mb,.int .u8 (mf.toNat:Int)] 48)::Fr))):=hHA.p
    obtain ⟨i,rfl⟩:=Int.eq_ofNat_of_zero_le hp.1
    obtain ⟨kk,rfl,hkk,hxx,_⟩:∃ kk:Nat,k=(kk:Int)∧kk<c.blocks.length∧(∃ x,c.blocks[kk]?=some x)∧True:=by
     unfold CM.there at hth
     obtain ⟨h0,h1⟩:=of_decide_eq_true hth
     obtain ⟨kk,rfl⟩:=Int.eq_ofNat_of_zero_le h0
     exact ⟨kk,rfl,by omega,⟨c.blocks[kk]'(by omega),List.getElem?_eq_getElem (by omega)⟩,trivial⟩
    obtain ⟨x,hx⟩:=hxx
    have hpo:c.pageOf (kk:Int) (i:Int)=x.pages.getD i []:=by unfold CM.pageOf;rw [CM.blk_nat hx];simp
    have hx9:c9.blocks[kk]?=some x:=by rw [h9];exact hx
    have hi9:i<c9.P:=by rw [h9];show i<c.P;rw [← HPe.out];omega
    obtain ⟨gp,cp,A,q,hq,hcp,hPc,hZq,hpage⟩:=HC1.out.page hx9 hi9
    obtain ⟨p0,p1,p2,p3⟩:=hpage _ _ hHB
    have d3:=(HC1.out.heads hHB).2.2.2.1
    have hbl9:c9.blocks.length=c.blocks.length:=by rw [h9]
    have hP9:c9.P=P:=by rw [h9];exact HPe.out.symm
    have hZ9:c9.Z=c.Z:=by rw [h9]
    rw [hbl9] at d3
    rw [hP9] at p0 hPc hi9
    rw [hZ9] at p1 p2 p3 hZq
    rw [hpo] at HRD2
    have HP2:=Lib.hid p2
    have HP3:=Lib.hid p3
    unfold maxLen at hq hcp
    have hcl:=clone_any (.slice (some ⟨A,0,none⟩) (c.Z+28) q) (x.pages.getD i []) _ _ p2 hHB (by rw [p3];omega)
    have HCL:=Lib.hid hcl
    clear p2 p3 hcl hpage hx9 hpo hx h9 hgd hon he HRD HBE hP9 hZ9 hbl9 hp hth
    generalize x.pages.getD i []=pg at *
    generalize c.blocks.length=nb at *
    go_wp2_with fail
    refine HCL.out.mono ?_
    rintro e w3 ⟨v3,H3,rfl,hb3,hH3,hg3⟩
    have HB3:=Lib.hid hb3
    clear hb3 HCL
    go_wp2_with fail
    go_ret2
    rw [HRD2.out]
    exact ⟨v3,.nilIface,H1,H3,[],G++[(w1.heap.size,.cells #[.int .i64 ma,.int .i64 mk,.int .i64 mb,.int .u8 (mf.toNat:Int)] 48)],rfl,HB3.out,IsErr.none,HC1.out,hH3.p,hGA.trans hg3⟩
  ·obtain ⟨b9,s9,rfl,_⟩:=isErrP8 he he0
   have HRD2:=Lib.hid (show c.read k p=(c9,[],ec) by rw [HRD.out,if_pos he0])
   have HE:=Lib.hid he
   clear he HRD HBE he0
   go_wp2_with fail
   go_ret2
   rw [HRD2.out]
   exact ⟨_,_,H1,[],He,G++[(w1.heap.size,.cells #[.int .i64 ma,.int .i64 mk,.int .i64 mb,.int .u8 (mf.toNat:Int)] 48)],rfl,IsRow.nil _ _,HE.out,HC1.out,hHA.p,hGA⟩
end
end Go.Proofs.YtoelopghilbfeaaGreat
namespace Go.Proofs.YtoelopghilbfeaaGreat
open Go.RowKit
set_option linter.unusedSimpArgs false
set_option linter.unusedVariables false
section
variable {b g cap:Nat} {mv:Value} {c:CM} {H Fr:HL} {w:World}
set_option maxRecDepth 20000 in
theorem ChipAt.copyPage (h:ChipAt b g cap mv c H) {k i:Nat} {x:CB} (hx:c.blocks[k]?=some x) (hi:i<c.P):∃ gp cp A q,q≤maxLen∧cp≤maxLen∧c.P≤cp∧c.Z+28≤q∧(∀ (w:World) (F:HL),Holds w (H++F) →
  w.cell? ⟨g,k * 5,none⟩=some (.slice (some ⟨gp,0,none⟩) c.P cp)∧w.cell? ⟨gp,i,none⟩=some (.slice (some ⟨A,0,none⟩) (c.Z+28) q)) ∧
  ∀ (w:World) (F:HL) (src:Value) (m:Nat) (bs:List UInt8),Holds w (H++F)→ReadsAt w 1 src m (bs.map cellB)→m≤c.Z+28 →
   ∃ w' H',(Builtin.copy_ #[38,38] 3 #[.slice (some ⟨A,0,none⟩) (c.Z+28) q,src]).run Tryz.prog w=.ok (.int .i64 (m:Int)) w' ∧
    ChipAt b g cap mv (c.setB k { x with pages:=x.pages.set i (bs++(x.pages.getD i []).drop m) }) H'∧Holds w' (H'++F)∧Grew w w':=by
 obtain ⟨pv,hB⟩:=h.open_ hx
 obtain ⟨Hp,Hr,hbys,hop,hput⟩:=hB.pages
 have hl:=hB.ok.1
 have hpi:x.pages[i]?=some x.pages[i]:=List.getElem?_eq_getElem (by omega)
 have hgd:x.pages.getD i []=x.pages[i]:=by simp [List.getD,show i<x.pages.length by omega]
 have hzl:(x.pages[i]).length=c.Z+28:=hB.ok.2.1 _ (List.getElem_mem _)
 obtain ⟨gp,cp,cs,Hi,Hr2,rfl,hc1,hc2,_,hcl,⟨v,rfl,hbv⟩,hcell,hopen,hput2,_⟩:=Rows2.open2 hbys hpi
 have hbv2:=hbv
 have hZ:=h.cok.2.2.1
 rw [hgd]
 generalize x.pages[i]=old at *
 rcases hbv2.2 with ⟨_,h0,_⟩ | ⟨A,q,cur,fz,rfl,hq1,hq2,hq3,htk,hfz,rfl⟩
 ·rw [hzl] at h0;omega
 ·rw [hzl] at hq1 htk
  refine ⟨gp,cp,A,q,hq2,hc2,by omega,hq1,fun w F hH=>?_,fun w F src m bs hH hsrc hm=>?_⟩
  ·have h1:=hop w F hH
   have h2:=hopen w _ h1
   have e0:=((hcell w _ h2.right).2 0 (by omega)).1
   rw [hzl] at e0
   exact ⟨by rw [← hl];exact (hB.cells w F hH).1,by simpa using e0⟩
  ·have h1:=hop w F hH
   have h2:=hopen w _ h1
   have hbl:bs.length=m:=by have:=hsrc.1;simpa using this
   have hmin:min m (c.Z+28)=m:=by omega
   have hrun:=run_copy_fz (P:=Tryz.prog) 38 38 3 5 tBytes.under (by kernel_rfl) (g:=A) (off:=0) (dLen:=c.Z+28) (dCap:=q) (h2.get (List.mem_cons_self)) hfz hsrc (by omega) (by intro y hy;obtain ⟨z,_,rfl⟩:=List.mem_map.1 hy;rfl)
   rw [hmin] at hrun
   have hset:=Holds.setRow' (w:=w) (b:=A) (cs:=cur) (t:=5) (fz:=fz) (H:=Hr2++(Hr++F)) h2 (cur.toList.take 0++(bs.map cellB).take m++cur.toList.drop (0+m)).toArray
   have hsz:(cur.toList.take 0++(bs.map cellB).take m++cur.toList.drop (0+m)).toArray.size=cur.size:=by simp;omega
   have hnl:(bs++old.drop m).length=c.Z+28:=by simp [hbl,hzl];omega
   have hnew:IsBytes (.slice (some ⟨A,0,none⟩) (c.Z+28) q) (bs++old.drop m) [(A,.cells (cur.toList.take 0++(bs.map cellB).take m++cur.toList.drop (0+m)).toArray 5 fz)]:=by
    unfold IsBytes
    rw [hnl]
    refine ⟨by simp [hbl,hzl];omega,.inr ⟨A,q,_,fz,rfl,hq1,hq2,by rw [hsz];exact hq3,?_,by rw [hsz];exact hfz,rfl⟩⟩
    show List.take ((c.Z+28) * 1) (cur.toList.take 0++(bs.map cellB).take m++cur.toList.drop (0+m))=(bs++old.drop m).map cellB
    have e1:(bs.map cellB).take m=bs.map cellB:=List.take_of_length_le (by simp;omega)
    rw [List.take_zero,List.nil_append,Nat.zero_add,e1,Nat.mul_one,List.take_append,List.take_of_length_le (by simp;omega),List.map_append]
    congr 1
    rw [List.length_map,hbl,List.map_drop,← htk,Nat.mul_one,List.drop_take]
   obtain ⟨H3,hr3,hH3⟩:=hput2 _ (Hr++F) (bs++old.drop m) _ ⟨_,rfl,by rw [hzl];exact hnew⟩ (by simpa using hset)
   obtain ⟨H4,hc4,hH4⟩:=hput _ F (x.pages.set i (bs++old.drop m)) H3 hr3 (by simpa using hl) (fun p hp=>by
    rcases List.mem_or_eq_of_mem_set hp with h | h
    ·exact hB.ok.2.1 p h
    ·rw [h];exact hnl) hH3
   exact ⟨_,H4,hrun,hc4,by simp only [List.take_zero,List.nil_append,Nat.zero_add];exact hH4,(Grew.refl w).setRow _ _⟩
end
end Go.Proofs.YtoelopghilbfeaaGreat
namespace Go.Proofs.YtoelopghilbfeaaGreat
open Go.RowKit
set_option linter.unusedSimpArgs false
set_option linter.unusedVariables false
def blankP (Z:Nat):List UInt8:=List.replicate (Z+28) 255
def blankB (P Z:Nat):List (List UInt8):=List.replicate P (blankP Z)
set_option maxRecDepth 20000 in
theorem nraw_at {b Z:Nat} {w:World} (h2:w.cell? ⟨b,2,none⟩=some (.int .i64 (Z:Int))) (hz:Z≤256):Calls Tryz.prog 72 #[.pointer (some ⟨b,0,none⟩)] w fun e w'=>e=.returned (.int .i64 ((Z:Int)+28))∧w=w':=by
 go_enter Tryz.func72,Tryz.ntmps72
 go_wp2_with fail
 go_ret
 exact ⟨rfl,rfl⟩
def EmptyTo (ov:Value) (P Z:Nat) (w:World) (Fr:HL) (iv:Value) (wr:World):Prop :=
 ∃ (k:Nat) (H:HL),k≤P∧iv=.int .i64 k∧Rows2 bytesR 38 1 ov (List.replicate k (blankP Z)++List.replicate (P - k) []) H∧Holds wr (H++Fr)∧Grew w wr
theorem bys_nils (g P:Nat) (hP:P≤8):Rows2 bytesR 38 1 (.slice (some ⟨g,0,none⟩) P P) (List.replicate P []) [(g,.cells (madeCells (Value.slice none 0 0).cells (P * 1)) 38)]:=by
 refine ⟨List.replicate P [.slice none 0 0],[(g,.cells (madeCells (Value.slice none 0 0).cells (P * 1)) 38)],List.replicate P [],?_,by simp,by simp,?_,?_,?_⟩
 ·have h:=IsRow.made (size:=1) (e:=38) g P (madeCells (Value.slice none 0 0).cells (P * 1)) (by rw [made_size]) (by simp [maxLen];omega)
  rw [List.length_replicate]
  have e:(madeCells (Value.slice none 0 0).cells (P * 1)).toList=(List.replicate P [Value.slice none 0 0]).flatten:=by
   apply List.ext_getElem
   ·simp [madeCells]
   ·intro i h1 h2
    have h3:∀ z∈(List.replicate P [Value.slice none 0 0]).flatten,z=Value.slice none 0 0:=by
     intro z hz
     obtain ⟨c,hc,hzc⟩:=List.mem_flatten.1 hz
     rw [List.eq_of_mem_replicate hc] at hzc
     simpa using hzc
    rw [h3 _ (List.getElem_mem h2)]
    simp [madeCells,Value.cells,Nat.mod_one]
  rw [e] at h
  exact h
 ·intro c hc
  rw [List.eq_of_mem_replicate hc];rfl
 ·intro i c x h e1 e2 e3
  rw [List.eq_of_mem_replicate (List.mem_of_getElem? e1),List.eq_of_mem_replicate (List.mem_of_getElem? e2),List.eq_of_mem_replicate (List.mem_of_getElem? e3)]
  exact ⟨_,rfl,IsRow.nil _ _⟩
 ·simp
theorem blank_step {P k Z:Nat} (h:k<P):(List.replicate k (blankP Z)++List.replicate (P - k) []).set k (blankP Z)=List.replicate (k+1) (blankP Z)++List.replicate (P - (k+1)) []:=by
 apply List.ext_getElem?
 intro i
 rw [List.getElem?_set]
 by_cases hi:k=i
 ·subst hi
  rw [if_pos rfl,if_pos (by simp;omega),List.getElem?_append_left (by simp),List.getElem?_replicate,if_pos (by omega)]
 ·rw [if_neg hi]
  by_cases h2:i<k
  ·rw [List.getElem?_append_left (by simpa using h2),List.getElem?_append_left (by simp;omega),List.getElem?_replicate,List.getElem?_replicate,if_pos h2,if_pos (by omega)]
  ·rw [List.getElem?_append_right (by simp;omega),List.getElem?_append_right (by simp;omega),List.getElem?_replicate,List.getElem?_replicate]
   simp only [List.length_replicate]
   by_cases h3:i<P
   ·rw [if_pos (by omega),if_pos (by omega)]
   ·rw [if_neg (by omega),if_neg (by omega)]
set_option maxRecDepth 20000 in
set_option maxHeartbeats 2000000 in
theorem nempty_any (b P Z:Nat) (w:World) (Fr:HL) (hH:Holds w Fr) (hP:∀ wx,Holds wx Fr→wx.cell? ⟨b,1,none⟩=some (.int .i64 (P:Int))∧wx.cell? ⟨b,2,none⟩=some (.int .i64 (Z:Int))) (hp1:1≤P) (hp8:P≤8) (hz:Z≤256) :
  Calls Tryz.prog 38 #[.pointer (some ⟨b,0,none⟩)] w (RetNew (fun v H=>IsBys v (blankB P Z) H) w Fr):=by
 have HP:=Lib.hid hP
 obtain ⟨c1,c2⟩:=hP w hH
 clear hP
 have hmk:=fun w=>run_makeN (P:=Tryz.prog) tBytess8 P P (Nat.le_refl _) (by omega) (by simp [maxLen];omega) w
 obtain ⟨bs,hbs⟩:∃ bs,bs=madeCells (Value.slice none 0 0).cells (P * 1):=⟨_,rfl⟩
 have hn:=bys_nils w.heap.size P hp8
 rw [← hbs] at hmk hn
 have HN:=Lib.hid hn;clear hn hbs
 go_enter Tryz.func38,Tryz.ntmps38
 go_wp2_with fail
 go_loopw [4,13] (fun _ iv wr=>EmptyTo (.slice (some ⟨w.heap.size,0,none⟩) P P) P Z w Fr iv wr) (fun _ iv _=>P - (intOf iv).toNat)
 case atStart=>exact ⟨0,_,by omega,rfl,by simpa using HN.out,hH.alloc _,(Grew.refl w).alloc _⟩
 case round =>
  obtain ⟨k,H,hk,rfl,hr,hHr,hgr⟩:=hrel
  clear HN c1 c2 hH
  by_cases hlt:k<P
  ·obtain ⟨d1,d2⟩:=HP.out wr hHr.right
   have hxk:(List.replicate k (blankP Z)++List.replicate (P - k) [])[k]?=some []:=by
    rw [List.getElem?_append_right (by simp),List.getElem?_replicate,if_pos (by simp;omega)]
   obtain ⟨g',cap',cs,Hi,Hr,hv,hq1,hq2,hq3,hcl,⟨pv,rfl,_⟩,hcell,hopen,_,hset⟩:=hr.open2 hxk
   clear hq1 hq2 hq3
   injection hv with hv hv2 hvc
   injection hv with hv
   injection hv with hv hv3 hv4
   subst hv hvc
   clear hv2 hv3 hv4
   have hHA:=hHr.alloc (.cells #[.int .u8 255] 5)
   have hGA:=hgr.alloc (.cells #[.int .u8 255] 5)
   have hHB:=hopen _ (((wr.heap.size,.cells #[.int .u8 255] 5)::Fr)) (hHA.p)
   have x0:=((hcell _ _ hHB.right).2 0 (by omega)).1
   have x1:=((hcell _ _ hHB.right).2 0 (by omega)).2
   have HC:=Lib.hid (fun (wx:World) (F:HL) (hx:Holds wx (Hr++F))=>(hcell wx F hx).2 0 (by omega))
   have HSET:=Lib.hid hset
   have hb1:BytesAt (wr.alloc (.cells #[.int .u8 255] 5)) (.slice (some ⟨wr.heap.size,0,none⟩) 1 1) [255]:=ReadsAt.one' rfl
   have HB1:=Lib.hid hb1
   have hdd:(wr.alloc (.cells #[.int .u8 255] 5)).cell? ⟨b,2,none⟩=some (.int .i64 (Z:Int)):=(HP.out _ (hHA.tail.right)).2
   have HHB:=Lib.hid hHB
   have HDD:=Lib.hid hdd
   have hkP:(k:Int)<(P:Int):=by omega
   have e28:((Z:Int)+28)=((Z+28:Nat):Int):=by omega
   have HE:=Lib.hid e28;clear e28
   clear hr hopen hset hcell hHA hb1 hHB x0 x1 hxk hcl hdd hmk
   go_wp2_with fail
   refine (nraw_at (w:=wr.alloc (.cells #[.int .u8 255] 5)) HDD.out hz).mono ?_
   rintro e wx ⟨rfl,rfl⟩
   rw [HE.out]
   go_wp2_with fail
   refine (repeat_any (.slice (some ⟨wr.heap.size,0,none⟩) 1 1) 255 (Z+28) _ _ HB1.out HHB.out (by omega) (by omega)).mono ?_
   rintro e w3 ⟨v3,H3,rfl,hb3,hH3,hg3⟩
   obtain ⟨A3,q3,rfl⟩:=hb3.val
   simp only [List.length_replicate] at hb3 ⊢
   have hH4:Holds w3 (H3++(Hr++((wr.heap.size,.cells #[.int .u8 255] 5)::Fr))):=hH3.p
   obtain ⟨x0,x1⟩:=HC.out w3 ((H3++((wr.heap.size,.cells #[.int .u8 255] 5)::Fr))) (hH4.p)
   obtain ⟨H',hr',hH5⟩:=HSET.out w3 ((wr.heap.size,.cells #[.int .u8 255] 5)::Fr) 0 (.slice A3 (Z+28) q3) (blankP Z) H3 (by omega) ⟨_,rfl,hb3⟩ hH4
   have hG5:=(hGA.trans hg3).setCell ⟨w.heap.size,k * 1+0,none⟩ (.slice A3 (Z+28) q3)
   have HR:=Lib.hid hr'
   have HH5:=Lib.hid hH5
   simp only [Nat.mul_one,Nat.add_zero,List.getElem?_cons_zero] at x0 x1 HH5 hG5
   clear hr' hH5 hH4 hH3 hb3 hg3
   go_wp2_with fail
   refine ⟨⟨k+1,H',by omega,by go_num,?_,Holds.mid (B:=[_]) HH5.out,hG5⟩,by simp [intOf];omega⟩
   rw [← blank_step hlt];exact HR.out
  ·obtain rfl:k=P:=by omega
   go_wp2_with fail
   go_ret
   refine ⟨_,H,rfl,?_,hHr,hgr⟩
   unfold IsBys blankB
   simpa using hr
end Go.Proofs.YtoelopghilbfeaaGreat
