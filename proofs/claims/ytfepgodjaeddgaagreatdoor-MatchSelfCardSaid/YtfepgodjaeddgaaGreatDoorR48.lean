/-
  lazaretlaw26.MatchMore.
-/
import Derived.Test.YtfepgodjaeddgaaGreatDoorR41
import Derived.Test.YtfepgodjaeddgaaGreatDoorR47
set_option maxHeartbeats 8000000
set_option maxRecDepth 100000
namespace Go.Proofs.YtfepgodjaeddgaaGreatDoor
open Go.RowKit
attribute [local go_sem ↓] Go.wp_at_zero Go.wp_at_succ
theorem matchTexts_any (s0 s1:ByteArray) (lv:Value) (l:List (List UInt8)) (w:World) (hl:PathAt w lv l) (hZ:∀x,x∈l->x.length<=140737488355328) (hE:EnvM w):Calls Tryz.prog 3 #[.string s0,.string s1,lv] w (RBool true w):=by
 have hl0:=hl;obtain⟨la,lc,xs,rfl,rfl,hx⟩:=hl;obtain⟨n,hn⟩:∃n,n=xs.length:=⟨_,rfl⟩;rw[<-hn]at hl0⊢;have HN:=Ih hn;obtain⟨q,hq⟩:∃q,q=decide (300<s0.size\/300<s1.size\/20<n):=⟨_,rfl⟩;have Hq:=Ih hq;have kH:Hid (∀V,Below w.heap.size w V->Calls Tryz.prog 8 #[] V fun e w'=>e=.returned (.bool true)/\Below w.heap.size w w'):=Ih (fun V hV=>(holds26_any V (hE.below hV)).mono fun e w' ⟨h1,h2⟩=>⟨h1,below_call hV h2⟩);have HP:Hid (∀V,Below w.heap.size w V->PathAt V (.slice la n lc) (xs.map (fun x:ByteArray=>x.data.toList))):=Ih (fun V hV=>hl0.below hV);have HZ:=Ih hZ;have HE:=Ih hE;clear hq hn hx hl0 hE hZ;go_enter Tryz.func3,Tryz.ntmps3
 go_upto_region 1 with fail
 go_cut [19] (fun s wx=>s=.bool q/\w=wx)
 case first=>
  by_cases h0:300<s0.size
  ·have i0:(300:Int)<(s0.size:Int):=by omega
   have HQ:Hid (q=true):=by show _=_;rw[Hq.out];exact decide_eq_true (Or.inl h0)
   clear h0
   go_wp2_with fail
   go_meet;exact⟨by rw[HQ.out],rfl⟩
  have i0:¬(300:Int)<(s0.size:Int):=by omega
  by_cases h1:300<s1.size
  ·have i1:(300:Int)<(s1.size:Int):=by omega
   have HQ:Hid (q=true):=by show _=_;rw[Hq.out];exact decide_eq_true (Or.inr (Or.inl h1))
   clear h0 h1
   go_wp2_with fail
   go_meet;exact⟨by rw[HQ.out],rfl⟩
  have i1:¬(300:Int)<(s1.size:Int):=by omega
  by_cases h2:20<n
  ·have i2:(20:Int)<(n:Int):=by omega
   have HQ:Hid (q=true):=by show _=_;rw[Hq.out];exact decide_eq_true (Or.inr (Or.inr h2))
   clear h0 h1 h2
   go_wp2_with fail
   go_meet;exact⟨by rw[HQ.out],rfl⟩
  have i2:¬(20:Int)<(n:Int):=by omega
  have HQ:Hid (q=false):=by show _=_;rw[Hq.out];exact decide_eq_false (fun h=>by omega)
  clear h0 h1 h2
  go_wp2_with fail
  go_meet;exact⟨by rw[HQ.out],rfl⟩
 case rest=>
 obtain⟨rfl,rfl⟩:=hcut;cases q with
 | true=>
   go_wp2_with fail
   refine(kH.out _ (Below.refl _ _)).mono ?_;rintro e w5 ⟨rfl,hb5⟩
   go_wp2_with fail
   go_ret;exact⟨rfl,hb5⟩
 | false=>
 have hqf:=of_decide_eq_false Hq.out.symm;have hn20:n<=20:=by omega
 have h0z:s0.size<=300:=by omega
 have h1z:s1.size<=300:=by omega
 clear hqf Hq;obtain⟨q1,hq1⟩:∃q,q=Lz.schemeM s0.data.toList s1.data.toList:=⟨_,rfl⟩;obtain⟨q2,hq2⟩:∃q,q=Lz.pathM s0.data.toList s1.data.toList:=⟨_,rfl⟩;obtain⟨q3,hq3⟩:∃q,q=Lz.noneM (xs.map (fun x:ByteArray=>x.data.toList)):=⟨_,rfl⟩;have e1:(q1==q1)=true:=beq_self_eq_true _;have e2:(q2==q2)=true:=beq_self_eq_true _;have e3:(q3==q3)=true:=beq_self_eq_true _;have hlen:(xs.map (fun x:ByteArray=>x.data.toList)).length<=1000000:=by rw[List.length_map,<-HN.out];omega
 have kA:=Ih (SchemeM_any s0 s1 w HE.out (by omega));have kB:=Ih (fun V=>Scheme26_any s0 s1 V);have kC:=Ih (fun V (hV:Below w.heap.size w V)=>PathM_any s0 s1 V (HE.out.below hV).u.h (by omega) (by omega));have kD:=Ih (fun V=>Path26_any s0 s1 V (by omega) (by omega));have kF:=Ih (fun V (hV:Below w.heap.size w V)=>NoneM_any _ _ V (HP.out V hV) hlen HZ.out);have kG:=Ih (fun V (hV:Below w.heap.size w V)=>None26_any _ _ V (HP.out V hV) HZ.out);rw[<-hq1]at kA kB;rw[<-hq2]at kC kD;rw[<-hq3]at kF kG;clear hq1 hq2 hq3 hlen
 go_wp2_with fail
 refine kA.out.mono ?_;rintro e w1 ⟨rfl,hb1⟩
 go_wp2_with fail
 refine(kB.out _).mono ?_;rintro e w2 ⟨rfl,hb2⟩;have hB2:=below_call hb1 hb2
 go_wp2_with fail
 refine(kC.out _ hB2).mono ?_;rintro e w3 ⟨rfl,hb3⟩;have hB3:=below_call hB2 hb3
 go_wp2_with fail
 refine(kD.out _).mono ?_;rintro e w4 ⟨rfl,hb4⟩;have hB4:=below_call hB3 hb4
 go_wp2_with fail
 refine(kF.out _ hB4).mono ?_;rintro e w5 ⟨rfl,hb5⟩;have hB5:=below_call hB4 hb5
 go_wp2_with fail
 refine(kG.out _ hB5).mono ?_;rintro e w6 ⟨rfl,hb6⟩;have hB6:=below_call hB5 hb6
 go_wp2_with fail
 refine(kH.out _ hB6).mono ?_;rintro e w7 ⟨rfl,hb7⟩
 go_wp2_with fail
 go_ret;exact⟨rfl,hb7⟩
end Go.Proofs.YtfepgodjaeddgaaGreatDoor
namespace Go.Proofs.YtfepgodjaeddgaaGreatDoor
open Go.ChangeShapes Go.WideShapes Go.ChangeAt Go.RowKit
theorem nat16_of_wf' {n:Int} (h:(Lit.int .u16 n).wf=true):∃m:Nat,n=(m:Int)/\m<65536:=by
 obtain⟨m,rfl,h1⟩:=nat_of_wf' h (by decide);rw[show IntKind.u16.max=65535 by decide]at h1;exact⟨m,rfl,by omega⟩
section
variable {H:Type} {enc:TypeId×Value->H} {W:World} {base:Nat} {sp:Nat->Bool} {hd:Bool} {v:Value} {d:DataW H} {ps:List MemPlace} {r:Reach} {b0:Nat}
theorem weights_strs (ss:List ByteArray) {s:ByteArray} (h:s∈ss):s.data.toList.length∈DataW.weightsAll Tryz.prog 9 (strs (H:=H) ss):=by
 induction ss with
 | nil=>cases h
 | cons a t ih=>
   show _∈DataW.weights Tryz.prog 9 (.lit (.string a.data.toList))++DataW.weightsAll Tryz.prog 9 (strs t);rcases List.mem_cons.1 h with rfl|h
   ·exact List.mem_append_left _ (by simp[DataW.weights])
   ·exact List.mem_append_right _ (ih h)
theorem path_of (hv:Value.okWide Tryz.prog W r b0 22 v) (h:DataW.Trod enc Tryz.prog W base sp hd 22 v d ps):∃l,PathAt W v l/\∀B,(∀x∈d.weights Tryz.prog 22,x<=B)->∀y∈l,y.length<=B:=by
 obtain⟨a0,len0,cap0,rfl⟩:=okWide_slice Tryz.underlying22 hv;obtain⟨fuel,hf⟩:=h;have hf2:DataW.trod enc Tryz.prog W base sp hd fuel 22 [.slice a0 len0 cap0]=some (d,ps):=hf;rcases open_strings Tryz.underlying22 Tryz.underlying9 cellsStr hf2 with⟨h0,hx⟩|⟨a,len,cap,ss,hcs,_,hl,hm,hz,hx,hcell,_⟩
 ·have h0:=List.singleton_inj.1 h0;rw[h0];exact⟨[],⟨none,0,[],rfl,rfl,fun j x hj=>by simp at hj⟩,fun _ _ y hy=>by cases hy⟩
 ·have h0:=List.singleton_inj.1 hcs;rw[h0];have hlen:len<=ss.length:=by rw[hz];split<;>omega
  refine⟨_,⟨some a,cap,ss.take len,by rw[List.length_take,Nat.min_eq_left hlen],rfl,fun j x hj=>?_⟩,?_⟩
  ·have hj':j<len:=by
    have:=(List.getElem?_eq_some_iff.1 hj).1;rw[List.length_take]at this;omega
   have hj2:ss[j]? =some x:=by
    rw[List.getElem?_take,if_pos hj']at hj;exact hj
   have hc:=hcell j (by omega);rw[List.getD_eq_getElem?_getD,hj2]at hc;change W.cell? (a.add j)=some (.string x)at hc;obtain⟨B,off,spot⟩:=a
   have hspot:spot=none:=by
    have h1:=hcell 0 (by omega);simpa [Addr.add]using World.cell?_spot h1
   subst hspot;rw[Go.WideShapes.add_plain]at hc;exact⟨B,off,rfl,World.block_lt_of_cell? _ _ hc,hc⟩
  ·intro B hB y hy;obtain⟨s,hs,rfl⟩:=List.mem_map.1 hy;refine hB _ ?_;rw[(Prod.mk.inj hx).1];simp only[DataW.weights,Tryz.underlying22];exact List.mem_cons_of_mem _ (List.mem_append_left _ (weights_strs _ hs))
theorem cell16' {x:DataW H×List MemPlace} {fuel:Nat} (hf:DataW.trod enc Tryz.prog W base sp hd fuel 37 [v]=some x):∃m:Nat,v=.int .u16 m/\m<65536:=by
 obtain⟨n,h,_,hw⟩:=DataW.trod_int Tryz.underlying37 hf;obtain rfl:=List.singleton_inj.1 h;obtain⟨m,rfl,hm⟩:=nat16_of_wf' hw;exact⟨m,rfl,hm⟩
theorem str2_of (hv:Value.okWide Tryz.prog W r b0 27 v) (h:DataW.Trod enc Tryz.prog W base sp hd 27 v d ps):∃s0 s1:ByteArray,v=.agg #[.string s0,.string s1]:=by
 simp only[Value.okWide,Tryz.underlying27]at hv;obtain⟨⟨cs⟩,rfl,hsz,_⟩:=hv;have h2:Tryz.prog.cellsOf 27=2:=by kernel_rfl
 rw[h2]at hsz
 match cs,hsz with
 | [a,b],_=>
   obtain⟨fuel,hf⟩:=h;cases fuel with
   | zero=>simp[DataW.trod]at hf
   | succ m=>
     rw[DataW.trod_step]at hf;unfold DataW.trodStep at hf;simp only[Tryz.underlying27,Value.cells,h2,cellsStr]at hf
     simp[List.range,List.range.loop,Option.bind_eq_some_iff]at hf
     obtain⟨_,_,ha,_,⟨_,_,hb,_⟩,_⟩:=hf;obtain⟨s0,rfl⟩:=cell_str ha rfl;obtain⟨s1,rfl⟩:=cell_str hb rfl;exact⟨s0,s1,rfl⟩
theorem u16x2_of (hv:Value.okWide Tryz.prog W r b0 38 v) (h:DataW.Trod enc Tryz.prog W base sp hd 38 v d ps):∃m0 m1:Nat,v=.agg #[.int .u16 m0,.int .u16 m1]/\m0<65536/\m1<65536:=by
 simp only[Value.okWide,Tryz.underlying38]at hv;obtain⟨⟨cs⟩,rfl,hsz,_⟩:=hv;have h2:Tryz.prog.cellsOf 38=2:=by kernel_rfl
 have h1:Tryz.prog.cellsOf 37=1:=by kernel_rfl
 rw[h2]at hsz
 match cs,hsz with
 | [a,b],_=>
   obtain⟨fuel,hf⟩:=h;cases fuel with
   | zero=>simp[DataW.trod]at hf
   | succ m=>
     rw[DataW.trod_step]at hf;unfold DataW.trodStep at hf;simp only[Tryz.underlying38,Value.cells,h2,h1]at hf
     simp[List.range,List.range.loop,Option.bind_eq_some_iff]at hf
     obtain⟨_,_,ha,_,⟨_,_,hb,_⟩,_⟩:=hf;obtain⟨m0,rfl,i0⟩:=cell16' ha;obtain⟨m1,rfl,i1⟩:=cell16' hb;exact⟨m0,m1,rfl,i0,i1⟩
end
end Go.Proofs.YtfepgodjaeddgaaGreatDoor
namespace Go.Proofs.YtfepgodjaeddgaaGreatDoor
open Go.RowKit
attribute [local go_sem ↓] Go.wp_at_zero Go.wp_at_succ
theorem append_nil_none (w:World) (c:Nat):(Builtin.append_ #[22,22] 22 #[.slice none 0 0,.slice none 0 c]).run Tryz.prog w=.ok (.slice none 0 0) w:=by
 obtain⟨i0,hi,hz0,hz1,hz2⟩:=info_parts infoStr
 simp[Builtin.append_,run_underlying Tryz.underlying22,sizeOf,typeInfo,hi,Builtin.lenOf,Builtin.firstCells]
theorem op_append_nil {w:World} {o:Oper} {a:Act} {K:Act->World->Prop} {Q:Exit->Act->World->Prop} (s x:Operand)
  (ho:o.op=.call {callee:=.builtin .append,args:= #[s,x],argTypes:= #[22,22]}) (hty:o.type=22) (base:Nat) (la:Option Addr) (n lc:Nat) (xs:List ByteArray) (hs:a.eval s=.slice none 0 0) (hx:a.eval x=.slice la n lc)
  (hp:PathAt w (.slice la n lc) (xs.map (fun x:ByteArray=>x.data.toList))) (hn:n=xs.length) (hL:n<=1000000) (hbase:base<=w.heap.size)
  (h:∀v' w',w'.ownsRow base 9 1 v' xs.length (xs.map Value.string)->w.grownBy w' none->K (a.put o.dst v') w'):Oper.wp Tryz.prog o a w K Q:=by
 obtain⟨i0,hi,hz0,hz1,hz2⟩:=info_parts infoStr;obtain⟨a1,c1,ys,he,hys,hc⟩:=hp
 obtain rfl:ys=xs:=by
  exact(List.map_inj_right (fun x y e=>ByteArray.ext (Array.toList_inj.1 e))).1 hys
 injection he with e1 e2 e3
 subst e1;subst e3;cases la with
 | none=>
   have h0:ys=[]:=by
    cases ys with
    | nil=>rfl
    | cons y r=>obtain⟨B,off,e,_⟩:=hc 0 y rfl;cases e
   subst h0;obtain rfl:n=0:=hn;have hr:=append_nil_none w lc;unfold Oper.wp execOp;simp only[ho,hty,resolve,invoke,builtin,Sem.run_bind,Sem.run_pure,Result.andThen_ok,List.map_toArray,List.map_cons,List.map_nil,hs,hx,hr];exact h _ _ (World.ownsRow_nil _ _ _ _) ⟨rfl,rfl,rfl,Nat.le_refl _,fun _ _ _=>rfl⟩
 | some ad=>
   obtain⟨v',w',hr,h2,h3,h4,h5⟩:=run_append_own_at (P:=Tryz.prog) w base 22 22 9 i0 (.string ⟨#[]⟩) 1 16 Tryz.underlying22 hi hz0 hz1 hz2 rfl (by decide) (.slice none 0 0) 0 [] (World.ownsRow_nil _ _ _ _) ad n lc (ys.map Value.string) (by rw[List.length_map,hn,Nat.mul_one]) (fun j u hj=>by
    rw[List.getElem?_map]at hj;cases hy:ys[j]? with
    | none=>rw[hy]at hj;cases hj
    | some y=>
      rw[hy]at hj;obtain rfl:=Option.some.inj hj;obtain⟨B,off,e,_,hc2⟩:=hc j y hy;obtain rfl:=Option.some.inj e;rw[show(⟨B,off,none⟩:Addr).add j=⟨B,off+j,none⟩ by unfold Addr.add;split<;>simp_all];exact hc2) (fun u hu=>by obtain⟨y,_,rfl⟩:=List.mem_map.1 hu;rfl) (by unfold maxLen;omega) (by omega) hbase
   rw[Nat.zero_add,List.nil_append,hn]at h2;unfold Oper.wp execOp;simp only[ho,hty,resolve,invoke,builtin,Sem.run_bind,Sem.run_pure,Result.andThen_ok,List.map_toArray,List.map_cons,List.map_nil,hs,hx,hr];exact h _ _ h2 h3
theorem op_append_snoc {w:World} {o:Oper} {a:Act} {K:Act->World->Prop} {Q:Exit->Act->World->Prop} (s x:Operand)
  (ho:o.op=.call {callee:=.builtin .append,args:= #[s,x],argTypes:= #[22,22]}) (hty:o.type=22) (base:Nat) (v:Value) (xs:List ByteArray) (hs:a.eval s=v) (hown:w.ownsRow base 9 1 v xs.length (xs.map Value.string)) (Bm:Nat) (c:Nat) (p:ByteArray) (hx:a.eval x=.slice (some ⟨Bm,0,none⟩) 1 c) (hp:w.cell? ⟨Bm,0,none⟩=some (.string p))
  (hL:xs.length<=1000000) (hbase:base<=w.heap.size)
  (h:∀v' w',w'.ownsRow base 9 1 v' (xs++[p]).length ((xs++[p]).map Value.string)->w.grownBy w' v.ownBlock->K (a.put o.dst v') w'):Oper.wp Tryz.prog o a w K Q:=by
 obtain⟨i0,hi,hz0,hz1,hz2⟩:=info_parts infoStr
 obtain⟨v',w',hr,h2,h3,h4,h5⟩:=run_append_own_at (P:=Tryz.prog) w base 22 22 9 i0 (.string ⟨#[]⟩) 1 16 Tryz.underlying22 hi hz0 hz1 hz2 rfl (by decide) v xs.length _ hown ⟨Bm,0,none⟩ 1 c [.string p] rfl (fun j u hj=>by
  match j,hj with
  | 0,hj=>
    obtain rfl:=Option.some.inj hj;rw[addr_add];exact hp) (fun u hu=>by rw[List.mem_singleton.1 hu];rfl) (by unfold maxLen;omega) (by omega) hbase
 have e1:xs.map Value.string++[Value.string p]=(xs++[p]).map Value.string:=by simp
 have e2:xs.length+1=(xs++[p]).length:=by simp
 rw[e1,e2]at h2;unfold Oper.wp execOp;simp only[ho,hty,resolve,invoke,builtin,Sem.run_bind,Sem.run_pure,Result.andThen_ok,List.map_toArray,List.map_cons,List.map_nil,hs,hx,hr];exact h _ _ h2 h3
theorem bne_q {m:Int} {q:Bool} (h:(m==0)=q):(m != 0)= !q:=by rw[bne,h]
theorem matchMore_any (s0 s1:ByteArray) (lv:Value) (l:List (List UInt8)) (m:ByteArray) (w:World) (hl:PathAt w lv l) (hE:EnvM w):Calls Tryz.prog 4 #[.agg #[.string s0,.string s1],lv,.string m] w (RBool true w):=by
 have hl0:=hl;obtain⟨la,lc,xs,rfl,rfl,hx⟩:=hl;obtain⟨n,hn⟩:∃n,n=xs.length:=⟨_,rfl⟩;rw[<-hn]at hl0⊢;have HN:=Ih hn;obtain⟨B0,hB0⟩:∃B0,B0=w.alloc (.cells #[.string s0,.string s1] 27):=⟨_,rfl⟩;have hbB:Below w.heap.size w B0:=by rw[hB0];exact(Below.refl _ w).alloc (Nat.le_refl _) _
 have hr0:B0.heap[w.heap.size]? =some (.cells #[.string s0,.string s1] 27 (0,0)):=by rw[hB0];exact heap_new _ _
 have g0:B0.cell? ⟨w.heap.size,0,none⟩=some (.string s0):=rowAt hr0 0 _ rfl;have g1:B0.cell? ⟨w.heap.size,1,none⟩=some (.string s1):=rowAt hr0 1 _ rfl;have hlt0:=row_lt hr0;have HBX:=Ih hB0;have HP:Hid (∀V,Below B0.heap.size B0 V->PathAt V (.slice la n lc) (xs.map (fun x:ByteArray=>x.data.toList))):=Ih (fun V hV=>(hl0.below hbB).below hV);have HC01:Hid (∀V,Below B0.heap.size B0 V->V.cell? ⟨w.heap.size,0,none⟩=some (.string s0)/\V.cell? ⟨w.heap.size,1,none⟩=some (.string s1)):=Ih (fun V hV=>⟨by rw[hV.cell (p:=⟨w.heap.size,0,none⟩) hlt0];exact g0,by rw[hV.cell (p:=⟨w.heap.size,1,none⟩) hlt0];exact g1⟩)
 have HX:Hid (∀(j:Nat) (x:ByteArray),xs[j]? =some x->∃B off,la=some ⟨B,off,none⟩/\B<B0.heap.size/\B0.cell? ⟨B,off+j,none⟩=some (.string x)):=Ih (fun j x hj=>by
  obtain⟨B,off,e,hB,hc⟩:=hx j x hj;exact⟨B,off,e,Nat.lt_of_lt_of_le hB hbB.size,by rw[hbB.cell (p:=⟨B,off+j,none⟩) hB];exact hc⟩)
 obtain⟨q,hq⟩:∃q,q=decide (300<s0.size\/300<s1.size\/20<n\/200<m.size):=⟨_,rfl⟩;have Hq:=Ih hq;have kH:Hid (∀V,Below B0.heap.size B0 V->Calls Tryz.prog 8 #[] V fun e w'=>e=.returned (.bool true)/\Below w.heap.size w w'):=Ih (fun V hV=>(holds26_any V ((hE.below hbB).below hV)).mono fun e w' ⟨h1,h2⟩=>⟨h1,below_call (below_call hbB hV) h2⟩);have kP00:=fun V (hV:Below B0.heap.size B0 V)=>parse_open s0 V ((hE.below hbB).below hV).u;have kP10:=fun V (hV:Below B0.heap.size B0 V)=>parse_open s1 V ((hE.below hbB).below hV).u;have kP0:=Ih kP00;have kP1:=Ih kP10;clear kP00 kP10;have HE:=Ih (hE.below hbB);clear hq hn hx hl0 hE hB0;go_enter Tryz.func4,Tryz.ntmps4
 go_upto_region 1 with fail
 rw[<-HBX.out]
 go_cut [34] (fun s wx=>s=.bool q/\B0=wx)
 case first=>
  by_cases h0:300<s0.size
  ·have i0:(300:Int)<(s0.size:Int):=by omega
   have HQ:Hid (q=true):=by show _=_;rw[Hq.out];exact decide_eq_true (Or.inl h0)
   clear h0
   go_wp2_with fail
   go_meet;exact⟨by rw[HQ.out],rfl⟩
  have i0:¬(300:Int)<(s0.size:Int):=by omega
  by_cases h1:300<s1.size
  ·have i1:(300:Int)<(s1.size:Int):=by omega
   have HQ:Hid (q=true):=by show _=_;rw[Hq.out];exact decide_eq_true (Or.inr (Or.inl h1))
   clear h0 h1
   go_wp2_with fail
   go_meet;exact⟨by rw[HQ.out],rfl⟩
  have i1:¬(300:Int)<(s1.size:Int):=by omega
  by_cases h2:20<n
  ·have i2:(20:Int)<(n:Int):=by omega
   have HQ:Hid (q=true):=by show _=_;rw[Hq.out];exact decide_eq_true (Or.inr (Or.inr (Or.inl h2)))
   clear h0 h1 h2
   go_wp2_with fail
   go_meet;exact⟨by rw[HQ.out],rfl⟩
  have i2:¬(20:Int)<(n:Int):=by omega
  by_cases h3:200<m.size
  ·have i3:(200:Int)<(m.size:Int):=by omega
   have HQ:Hid (q=true):=by show _=_;rw[Hq.out];exact decide_eq_true (Or.inr (Or.inr (Or.inr h3)))
   clear h0 h1 h2 h3
   go_wp2_with fail
   go_meet;exact⟨by rw[HQ.out],rfl⟩
  have i3:¬(200:Int)<(m.size:Int):=by omega
  have HQ:Hid (q=false):=by show _=_;rw[Hq.out];exact decide_eq_false (fun h=>by omega)
  clear h0 h1 h2 h3
  go_wp2_with fail
  go_meet;exact⟨by rw[HQ.out],rfl⟩
 case rest=>
 obtain⟨rfl,rfl⟩:=hcut;cases q with
 | true=>
   go_wp2_with fail
   refine(kH.out _ (Below.refl _ _)).mono ?_;rintro e w5 ⟨rfl,hb5⟩
   go_wp2_with fail
   go_ret;exact⟨rfl,hb5⟩
 | false=>
 have hqf:=of_decide_eq_false Hq.out.symm;have hn20:n<=20:=by omega
 have hm200:m.size<=200:=by omega
 clear hqf Hq
 go_wp2_with fail
 go_loopw [7] (fun i wr=>∃j:Nat,i=.int .i64 j/\j<=n/\Hid (∀x∈xs.take j,x.size<=200)/\Below B0.heap.size B0 wr) (fun i _=>n-(intOf i).toNat)
 case atStart=>exact⟨0,rfl,Nat.zero_le _,Ih (fun x hx=>by cases hx),Below.refl _ _⟩
 case round=>
 obtain⟨j,rfl,hj,hT,hbw⟩:=hrel;by_cases hlt:j<n
 ·have hltI:(j:Int)<(n:Int):=by omega
  have hj0:(0:Int)<=(j:Int):=by omega
  obtain⟨x,hx⟩:∃x,xs[j]? =some x:=⟨_,List.getElem?_eq_getElem (by rw[<-HN.out];exact hlt)⟩;obtain⟨B,off,rfl,hB,hc⟩:=HX.out j x hx;have hcr:wr.cell? ⟨B,off+j,none⟩=some (.string x):=by rw[hbw.cell (p:=⟨B,off+j,none⟩) hB];exact hc
  by_cases hz:200<x.size
  ·have hzI:(200:Int)<(x.size:Int):=by omega
   clear hx hz hc
   go_wp2_with fail
   refine(kH.out _ hbw).mono ?_;rintro e w5 ⟨rfl,hb5⟩
   go_wp2_with fail
   go_ret;exact⟨rfl,hb5⟩
  ·have hzI:¬(200:Int)<(x.size:Int):=by omega
   have HT:Hid (∀y∈xs.take (j+1),y.size<=200):=Ih (fun y hy=>by
    rw[List.take_add_one,hx]at hy;rcases List.mem_append.1 hy with h|h
    ·exact hT.out y h
    ·rw[List.mem_singleton.1 h];omega)
   clear hx hz hc
   go_wp2_with fail
   go_roundw
   case rel=>exact⟨j+1,by go_num,by omega,HT,hbw⟩
   case measure=>simp[intOf];omega
 ·have hltI:¬(j:Int)<(n:Int):=by omega
  have HZ:Hid (∀y∈xs,y.size<=200):=by
   show ∀y∈xs,y.size<=200;have:=hT.out
   rwa [List.take_of_length_le (by have:=HN.out;omega)]at this
  obtain⟨cr0,cr1⟩:=HC01.out wr hbw;clear hT
  go_wp2_with fail
  refine(kP0.out _ hbw).mono ?_;rintro e w1 ⟨v1,m1,u1,q1,rfl,hb1,hu1,hm1,hz1⟩;obtain⟨sc1,us1,pa1,hh1,hs1,pr1,op1,a1,n1,c1,hq1,hf1,qr1,fr1,rfl,_,_,_,_,_,hu1⟩:=hu1.letters
  go_upto_region 9 with fail
  obtain⟨W1,hW1⟩:∃W1,W1=w1.alloc (.cells #[.string sc1,.string us1,.string pa1,.bool hh1,.string hs1,.int .i64 pr1,.bool op1,.slice a1 n1 c1,.bool hq1,.bool hf1,.string qr1,.string fr1] 29):=⟨_,rfl⟩;have e1:Below w1.heap.size w1 W1:=by rw[hW1];exact(Below.refl _ w1).alloc (Nat.le_refl _) _
  have r1:W1.heap[w1.heap.size]? =some (.cells #[.string sc1,.string us1,.string pa1,.bool hh1,.string hs1,.int .i64 pr1,.bool op1,.slice a1 n1 c1,.bool hq1,.bool hf1,.string qr1,.string fr1] 29 (0,0)):=by rw[hW1];exact heap_new _ _
  have hu1':=hu1.below e1;have hbW1:Below B0.heap.size B0 W1:=below_call (below_call hbw hb1) e1;rw[<-hW1];obtain⟨cs0,cs1⟩:=HC01.out W1 hbW1;have R1:=Ih r1;have HU0:=Ih hu1';clear hW1 hu1 hb1 e1 r1 hu1' cr0 cr1
  go_wp2_with fail
  refine(kP1.out _ hbW1).mono ?_;rintro e w2 ⟨v2,m2,u2,q2,rfl,hb2,hu2,hm2,hz2⟩;obtain⟨sc2,us2,pa2,hh2,hs2,pr2,op2,a2,n2,c2,hq2,hf2,qr2,fr2,rfl,_,_,_,_,_,hu2⟩:=hu2.letters
  go_upto_region 10 with fail
  obtain⟨W2,hW2⟩:∃W2,W2=w2.alloc (.cells #[.string sc2,.string us2,.string pa2,.bool hh2,.string hs2,.int .i64 pr2,.bool op2,.slice a2 n2 c2,.bool hq2,.bool hf2,.string qr2,.string fr2] 29):=⟨_,rfl⟩;have e2:Below w2.heap.size w2 W2:=by rw[hW2];exact(Below.refl _ w2).alloc (Nat.le_refl _) _
  have r2:W2.heap[w2.heap.size]? =some (.cells #[.string sc2,.string us2,.string pa2,.bool hh2,.string hs2,.int .i64 pr2,.bool op2,.slice a2 n2 c2,.bool hq2,.bool hf2,.string qr2,.string fr2] 29 (0,0)):=by rw[hW2];exact heap_new _ _
  have e12:Below W1.heap.size W1 W2:=below_call hb2 e2;have r1':W2.heap[w1.heap.size]? =some (.cells #[.string sc1,.string us1,.string pa1,.bool hh1,.string hs1,.int .i64 pr1,.bool op1,.slice a1 n1 c1,.bool hq1,.bool hf1,.string qr1,.string fr1] 29 (0,0)):=(e12.block _ (row_lt R1.out)).trans R1.out;have hu1'':=HU0.out.below e12;have hu2':=hu2.below e2;have hbW2:Below B0.heap.size B0 W2:=below_call hbW1 e12;rw[<-hW2];have hwW2:Below w.heap.size w W2:=below_call hbB hbW2;have mq1:=bne_q hm1;have mq2:=bne_q hm2;clear hW2 hu2 hb2 e2 e12 R1 HU0 hm1 hm2 cs0 cs1;have HU1:=Ih hu1'';have HU2:=Ih hu2';have HWW:=Ih hwW2;have HBW:=Ih hbW2;clear hu1'' hu2' hwW2;cases q1 with
  | false=>
    have mq1':(m1 != 0)=true:=mq1;clear mq1
    go_wp2_with fail
    refine(kH.out _ HBW.out).mono ?_;rintro e w5 ⟨rfl,hb5⟩
    go_wp2_with fail
    go_ret;exact⟨rfl,hb5⟩
  | true=>
  have mq1':(m1 != 0)=false:=mq1;clear mq1;cases q2 with
  | false=>
    have mq2':(m2 != 0)=true:=mq2;clear mq2
    go_wp2_with fail
    refine(kH.out _ HBW.out).mono ?_;rintro e w5 ⟨rfl,hb5⟩
    go_wp2_with fail
    go_ret;exact⟨rfl,hb5⟩
  | true=>
    have mq2':(m2 != 0)=false:=mq2;clear mq2;have ho1:=(hz1.out.1 rfl).2;have ho2:=(hz2.out.1 rfl).2
    have HZL:Hid (∀y∈xs.map (fun x:ByteArray=>x.data.toList),y.length<=90000):=Ih (fun y hy=>by
     obtain⟨z,hz,rfl⟩:=List.mem_map.1 hy;have:=HZ.out z hz;rw[len_of_size];omega)
    obtain⟨L,hL⟩:∃L,L=xs.map (fun x:ByteArray=>x.data.toList):=⟨_,rfl⟩;have hLn:L.length=n:=by rw[hL,List.length_map,HN.out]
    obtain⟨b1,hb1⟩:∃b,b=Lz.anyM u1 L u2 false:=⟨_,rfl⟩;obtain⟨b2,hb2⟩:∃b,b=Lz.anyM u1 (L++[m.data.toList]) u2 false:=⟨_,rfl⟩;obtain⟨b3,hb3⟩:∃b,b=Lz.anyM u1 L u2 true:=⟨_,rfl⟩;have HM:Hid ((!b1||(b2&&b3))=true):=by show _=_;rw[hb1,hb2,hb3];exact Lz.more_says u1 u2 L m.data.toList
    have kA:Hid (∀V,Below W2.heap.size W2 V->Calls Tryz.prog 16 #[.agg #[.string sc1,.string us1,.string pa1,.bool hh1,.string hs1,.int .i64 pr1,.bool op1,.slice a1 n1 c1,.bool hq1,.bool hf1,.string qr1,.string fr1],.slice la n lc,.agg #[.string sc2,.string us2,.string pa2,.bool hh2,.string hs2,.int .i64 pr2,.bool op2,.slice a2 n2 c2,.bool hq2,.bool hf2,.string qr2,.string fr2],.bool false] V fun e w'=>e=.returned (.bool b1)/\Below W2.heap.size W2 w'):=Ih (fun V hV=>by
     rw[hb1];refine(AnyM_any _ u1 _ L _ u2 false V ((HE.out.below HBW.out).below hV) (HU1.out.below hV) ho1 (HU2.out.below hV) ho2 (by rw[hL];exact HP.out V (below_call HBW.out hV)) (by omega) (by rw[hL];exact HZL.out)).mono ?_;exact fun e w' ⟨h1,h2⟩=>⟨h1,below_call hV h2⟩)
    have kB:Hid (∀V (v':Value),Below W2.heap.size W2 V->PathAt V v' ((xs.map (fun x:ByteArray=>x.data.toList))++[m.data.toList])->Calls Tryz.prog 16 #[.agg #[.string sc1,.string us1,.string pa1,.bool hh1,.string hs1,.int .i64 pr1,.bool op1,.slice a1 n1 c1,.bool hq1,.bool hf1,.string qr1,.string fr1],v',.agg #[.string sc2,.string us2,.string pa2,.bool hh2,.string hs2,.int .i64 pr2,.bool op2,.slice a2 n2 c2,.bool hq2,.bool hf2,.string qr2,.string fr2],.bool false] V fun e w'=>e=.returned (.bool b2)/\Below W2.heap.size W2 w'):=Ih (fun V v' hV hp=>by
     rw[hb2]
     refine(AnyM_any _ u1 _ (L++[m.data.toList]) _ u2 false V ((HE.out.below HBW.out).below hV) (HU1.out.below hV) ho1 (HU2.out.below hV) ho2 (by rw[hL];exact hp) (by rw[List.length_append,hLn];simp;omega) (by
      intro y hy;rcases List.mem_append.1 hy with h|h
      ·rw[hL]at h;exact HZL.out y h
      ·rw[List.mem_singleton.1 h,len_of_size];omega)).mono ?_
     exact fun e w' ⟨h1,h2⟩=>⟨h1,below_call hV h2⟩)
    have kC:Hid (∀V,Below W2.heap.size W2 V->Calls Tryz.prog 16 #[.agg #[.string sc1,.string us1,.string pa1,.bool hh1,.string hs1,.int .i64 pr1,.bool op1,.slice a1 n1 c1,.bool hq1,.bool hf1,.string qr1,.string fr1],.slice la n lc,.agg #[.string sc2,.string us2,.string pa2,.bool hh2,.string hs2,.int .i64 pr2,.bool op2,.slice a2 n2 c2,.bool hq2,.bool hf2,.string qr2,.string fr2],.bool true] V fun e w'=>e=.returned (.bool b3)/\Below W2.heap.size W2 w'):=Ih (fun V hV=>by
     rw[hb3];refine(AnyM_any _ u1 _ L _ u2 true V ((HE.out.below HBW.out).below hV) (HU1.out.below hV) ho1 (HU2.out.below hV) ho2 (by rw[hL];exact HP.out V (below_call HBW.out hV)) (by omega) (by rw[hL];exact HZL.out)).mono ?_;exact fun e w' ⟨h1,h2⟩=>⟨h1,below_call hV h2⟩)
    have HP2:Hid (∀V,Below W2.heap.size W2 V->PathAt V (.slice la n lc) (xs.map (fun x:ByteArray=>x.data.toList))):=Ih (fun V hV=>HP.out V (below_call HBW.out hV))
    have hC:Hid (∀V,Below W2.heap.size W2 V->(V.cell? ⟨w1.heap.size,0,none⟩=some (.string sc1)/\V.cell? ⟨w1.heap.size,1,none⟩=some (.string us1)/\V.cell? ⟨w1.heap.size,2,none⟩=some (.string pa1)/\V.cell? ⟨w1.heap.size,3,none⟩=some (.bool hh1)/\V.cell? ⟨w1.heap.size,4,none⟩=some (.string hs1)/\V.cell? ⟨w1.heap.size,5,none⟩=some (.int .i64 pr1)/\V.cell? ⟨w1.heap.size,6,none⟩=some (.bool op1)/\V.cell? ⟨w1.heap.size,7,none⟩=some (.slice a1 n1 c1)/\V.cell? ⟨w1.heap.size,8,none⟩=some (.bool hq1)/\V.cell? ⟨w1.heap.size,9,none⟩=some (.bool hf1)/\V.cell? ⟨w1.heap.size,10,none⟩=some (.string qr1)/\V.cell? ⟨w1.heap.size,11,none⟩=some (.string fr1))/\(V.cell? ⟨w2.heap.size,0,none⟩=some (.string sc2)/\V.cell? ⟨w2.heap.size,1,none⟩=some (.string us2)/\V.cell? ⟨w2.heap.size,2,none⟩=some (.string pa2)/\V.cell? ⟨w2.heap.size,3,none⟩=some (.bool hh2)/\V.cell? ⟨w2.heap.size,4,none⟩=some (.string hs2)/\V.cell? ⟨w2.heap.size,5,none⟩=some (.int .i64 pr2)/\V.cell? ⟨w2.heap.size,6,none⟩=some (.bool op2)/\V.cell? ⟨w2.heap.size,7,none⟩=some (.slice a2 n2 c2)/\V.cell? ⟨w2.heap.size,8,none⟩=some (.bool hq2)/\V.cell? ⟨w2.heap.size,9,none⟩=some (.bool hf2)/\V.cell? ⟨w2.heap.size,10,none⟩=some (.string qr2)/\V.cell? ⟨w2.heap.size,11,none⟩=some (.string fr2))):=Ih (fun V hV=>⟨row12 ((hV.block _ (row_lt r1')).trans r1'),row12 ((hV.block _ (row_lt r2)).trans r2)⟩)
    have kH2:Hid (∀V,Below W2.heap.size W2 V->Calls Tryz.prog 8 #[] V fun e w'=>e=.returned (.bool true)/\Below w.heap.size w w'):=Ih (fun V hV=>kH.out V (below_call HBW.out hV));clear hb1 hb2 hb3 hL hLn HP kH;have HP:=HP2;clear HP2 hz1 hz2 ho1 ho2 HZL HZ HU1 HU2 r1' r2 kP0 kP1 HX HC01 HBX hlt0 hr0 g0 g1;obtain⟨⟨x0,x1,x2,x3,x4,x5,x6,x7,x8,x9,x10,x11⟩,y0,y1,y2,y3,y4,y5,y6,y7,y8,y9,y10,y11⟩:=hC.out W2 (Below.refl _ _)
    go_wp2_with fail
    refine(kA.out _ (Below.refl _ _)).mono ?_;rintro e w3 ⟨rfl,hb3⟩;clear x0 x1 x2 x3 x4 x5 x6 x7 x8 x9 x10 x11 y0 y1 y2 y3 y4 y5 y6 y7 y8 y9 y10 y11
    go_upto_region 13 with fail
    go_cut [13] (fun s wx=>s=.bool b2/\Below W2.heap.size W2 wx)
    case first=>
     refine wp_region_held_drew (S:=fun V=>((V.cell? ⟨w1.heap.size,0,none⟩=some (.string sc1)/\V.cell? ⟨w1.heap.size,1,none⟩=some (.string us1)/\V.cell? ⟨w1.heap.size,2,none⟩=some (.string pa1)/\V.cell? ⟨w1.heap.size,3,none⟩=some (.bool hh1)/\V.cell? ⟨w1.heap.size,4,none⟩=some (.string hs1)/\V.cell? ⟨w1.heap.size,5,none⟩=some (.int .i64 pr1)/\V.cell? ⟨w1.heap.size,6,none⟩=some (.bool op1)/\V.cell? ⟨w1.heap.size,7,none⟩=some (.slice a1 n1 c1)/\V.cell? ⟨w1.heap.size,8,none⟩=some (.bool hq1)/\V.cell? ⟨w1.heap.size,9,none⟩=some (.bool hf1)/\V.cell? ⟨w1.heap.size,10,none⟩=some (.string qr1)/\V.cell? ⟨w1.heap.size,11,none⟩=some (.string fr1))/\(V.cell? ⟨w2.heap.size,0,none⟩=some (.string sc2)/\V.cell? ⟨w2.heap.size,1,none⟩=some (.string us2)/\V.cell? ⟨w2.heap.size,2,none⟩=some (.string pa2)/\V.cell? ⟨w2.heap.size,3,none⟩=some (.bool hh2)/\V.cell? ⟨w2.heap.size,4,none⟩=some (.string hs2)/\V.cell? ⟨w2.heap.size,5,none⟩=some (.int .i64 pr2)/\V.cell? ⟨w2.heap.size,6,none⟩=some (.bool op2)/\V.cell? ⟨w2.heap.size,7,none⟩=some (.slice a2 n2 c2)/\V.cell? ⟨w2.heap.size,8,none⟩=some (.bool hq2)/\V.cell? ⟨w2.heap.size,9,none⟩=some (.bool hf2)/\V.cell? ⟨w2.heap.size,10,none⟩=some (.string qr2)/\V.cell? ⟨w2.heap.size,11,none⟩=some (.string fr2)))/\Below W2.heap.size W2 V) (by kernel_rfl) ⟨hC.out _ hb3.drew,hb3.drew⟩ (fun hHeld=>?_)
     generalize w3.drew=W0 at hHeld⊢;refine TkD 0 (some 72) (v:=?_) rfl rfl ?_ ?_;rotate_left
     ·(intro W hSw;(try dsimp only at hSw);go_simp;try with_reducible rfl)
     (try simp only[Act.put]);(try simp only[List.setIfInBounds_toArray]);(try simp only[List.set_cons_zero,List.set_cons_succ])
     refine TkD 1 (some 73) (v:=?_) rfl rfl ?_ ?_;rotate_left
     ·(intro W hSw;(try dsimp only at hSw);go_simp;try with_reducible rfl)
     (try simp only[Act.put]);(try simp only[List.setIfInBounds_toArray]);(try simp only[List.set_cons_zero,List.set_cons_succ])
     refine TkD 3 (some 75) (v:=?_) rfl rfl ?_ ?_;rotate_left
     ·(intro W hSw;(try dsimp only at hSw);go_simp;try with_reducible rfl)
     (try simp only[Act.put]);(try simp only[List.setIfInBounds_toArray]);(try simp only[List.set_cons_zero,List.set_cons_succ])
     refine TkD 6 (some 78) (v:=?_) rfl rfl ?_ ?_;rotate_left
     ·(intro W hSw;(try dsimp only at hSw);go_simp;try with_reducible rfl)
     (try simp only[Act.put]);(try simp only[List.setIfInBounds_toArray]);(try simp only[List.set_cons_zero,List.set_cons_succ])
     refine wpAnyH_ready (rs:=[2,4]) (by kernel_rfl) (by simp) ?_;refine AllReadyH.cons rfl (fun K hK=>?_) (AllReadyH.cons rfl (fun K hK=>?_) AllReadyH.nil)
     ·skip
      rw[if_pos (by rfl)];refine op_append_nil (.const (.slice none 0 0)) (.tmp 73) rfl rfl W2.heap.size la n lc xs rfl rfl (HP.out W0 hHeld.2) HN.out (by omega) hHeld.2.size ?_;intro v5 w5 hown5 hgrow5;have hb5:Below W2.heap.size W2 w5:=hHeld.2.grown hgrow5 hHeld.2.size (fun k hk=>by cases hk);have hcm5:Below W0.heap.size W0 w5:=(Below.refl _ _).grown hgrow5 (Nat.le_refl _) (fun k hk=>by cases hk);clear hHeld hgrow5;refine hK.out _ _ ⟨hC.out _ hb5,hb5⟩ (fun hHeld=>?_);clear hK K
      (try simp only[Act.put]);(try simp only[List.setIfInBounds_toArray]);(try simp only[List.set_cons_zero,List.set_cons_succ])
      refine wpAnyH_ready (rs:=[4]) (by kernel_rfl) (by simp) ?_;refine AllReadyH.cons rfl (fun K hK=>?_) AllReadyH.nil;have hown5b:=own_below hown5 ((Below.refl w5.heap.size w5).alloc (Nat.le_refl _) (.cells #[.string m] 9));clear hown5;go_simp;have hb6:Below W2.heap.size W2 (w5.alloc (.cells #[.string m] 9)):=hHeld.2.alloc hHeld.2.size _;have hc6:(w5.alloc (.cells #[.string m] 9)).cell? ⟨w5.heap.size,0,none⟩=some (.string m):=rowAt (heap_new w5 (.cells #[.string m] 9)) 0 (.string m) rfl;clear hHeld;refine hK.out _ _ ⟨hC.out _ hb6,hb6⟩ (fun hHeld=>?_);clear hK K
      (try simp only[Act.put]);(try simp only[List.setIfInBounds_toArray]);(try simp only[List.set_cons_zero,List.set_cons_succ])
      have hown5:=hown5b;clear hown5b hcm5;refine wpAnyH_ready (rs:=[5]) (by kernel_rfl) (by simp) ?_;refine AllReadyH.cons rfl (fun K hK=>?_) AllReadyH.nil;rw[if_pos (by rfl)];refine op_append_snoc (.tmp 74) (.tmp 76) rfl rfl W2.heap.size v5 xs rfl hown5 w5.heap.size 1 m rfl hc6 (by have:=HN.out;omega) hHeld.2.size ?_;intro v7 w7 hown7 hgrow7;have hb7:Below W2.heap.size W2 w7:=hHeld.2.grown hgrow7 hHeld.2.size (fun k hk=>(hown5.lt k hk).1)
      have hpa7:PathAt w7 v7 ((xs.map (fun x:ByteArray=>x.data.toList))++[m.data.toList]):=by
       obtain⟨a7,c7,e7,_,k7⟩:=PathOwn.form (Or.inl hown7);exact⟨a7,c7,xs++[m],e7,by simp,k7⟩
      clear hHeld hown7 hgrow7 hown5 hc6;refine hK.out _ _ ⟨hC.out _ hb7,hb7⟩ (fun hHeld=>?_);clear hK K
      (try simp only[Act.put]);(try simp only[List.setIfInBounds_toArray]);(try simp only[List.set_cons_zero,List.set_cons_succ])
      refine wpAnyH_ready (rs:=[7]) (by kernel_rfl) (by simp) ?_;refine AllReadyH.cons rfl (fun K hK=>?_) AllReadyH.nil;go_simp
      go_at_call 16
      refine(kB.out _ _ hHeld.2 hpa7).mono ?_;rintro e w8 ⟨rfl,hb8⟩;clear hHeld;refine hK.out _ _ ⟨hC.out _ hb8,hb8⟩ (fun hHeld=>?_);clear hK K
      (try simp only[Act.put]);(try simp only[List.setIfInBounds_toArray]);(try simp only[List.set_cons_zero,List.set_cons_succ])
      refine TkD 8 (some 13) (v:=?_) rfl rfl ?_ ?_;rotate_left
      ·(intro W hSw;(try dsimp only at hSw);go_simp;try with_reducible rfl)
      (try simp only[Act.put]);(try simp only[List.setIfInBounds_toArray]);(try simp only[List.set_cons_zero,List.set_cons_succ])
      refine wpAnyH_done (by kernel_rfl) ?_ _
      go_wp2_with fail
      go_meet;exact⟨rfl,hHeld.2⟩
     ·skip
      have hw0:=hHeld.2.size;go_simp;have hb6:Below W2.heap.size W2 (W0.alloc (.cells #[.string m] 9)):=hHeld.2.alloc hHeld.2.size _;have hc6:(W0.alloc (.cells #[.string m] 9)).cell? ⟨W0.heap.size,0,none⟩=some (.string m):=rowAt (heap_new W0 (.cells #[.string m] 9)) 0 (.string m) rfl;clear hHeld;refine hK.out _ _ ⟨hC.out _ hb6,hb6⟩ (fun hHeld=>?_);clear hK K
      (try simp only[Act.put]);(try simp only[List.setIfInBounds_toArray]);(try simp only[List.set_cons_zero,List.set_cons_succ])
      refine wpAnyH_ready (rs:=[2]) (by kernel_rfl) (by simp) ?_;refine AllReadyH.cons rfl (fun K hK=>?_) AllReadyH.nil;rw[if_pos (by rfl)];refine op_append_nil (.const (.slice none 0 0)) (.tmp 73) rfl rfl W2.heap.size la n lc xs rfl rfl (HP.out (W0.alloc (.cells #[.string m] 9)) hHeld.2) HN.out (by omega) hHeld.2.size ?_;intro v5 w5 hown5 hgrow5;have hb5:Below W2.heap.size W2 w5:=hHeld.2.grown hgrow5 hHeld.2.size (fun k hk=>by cases hk);have hcm5:Below (W0.alloc (.cells #[.string m] 9)).heap.size (W0.alloc (.cells #[.string m] 9)) w5:=(Below.refl _ _).grown hgrow5 (Nat.le_refl _) (fun k hk=>by cases hk);clear hHeld hgrow5;refine hK.out _ _ ⟨hC.out _ hb5,hb5⟩ (fun hHeld=>?_);clear hK K
      (try simp only[Act.put]);(try simp only[List.setIfInBounds_toArray]);(try simp only[List.set_cons_zero,List.set_cons_succ])
      have hc6b:w5.cell? ⟨W0.heap.size,0,none⟩=some (.string m):=by rw[hcm5.cell (p:=⟨W0.heap.size,0,none⟩) (by simp)];exact hc6
      clear hc6 hcm5;have hc6:=hc6b;clear hc6b;refine wpAnyH_ready (rs:=[5]) (by kernel_rfl) (by simp) ?_;refine AllReadyH.cons rfl (fun K hK=>?_) AllReadyH.nil;rw[if_pos (by rfl)];refine op_append_snoc (.tmp 74) (.tmp 76) rfl rfl W2.heap.size v5 xs rfl hown5 W0.heap.size 1 m rfl hc6 (by have:=HN.out;omega) hHeld.2.size ?_;intro v7 w7 hown7 hgrow7;have hb7:Below W2.heap.size W2 w7:=hHeld.2.grown hgrow7 hHeld.2.size (fun k hk=>(hown5.lt k hk).1)
      have hpa7:PathAt w7 v7 ((xs.map (fun x:ByteArray=>x.data.toList))++[m.data.toList]):=by
       obtain⟨a7,c7,e7,_,k7⟩:=PathOwn.form (Or.inl hown7);exact⟨a7,c7,xs++[m],e7,by simp,k7⟩
      clear hHeld hown7 hgrow7 hown5 hc6;refine hK.out _ _ ⟨hC.out _ hb7,hb7⟩ (fun hHeld=>?_);clear hK K
      (try simp only[Act.put]);(try simp only[List.setIfInBounds_toArray]);(try simp only[List.set_cons_zero,List.set_cons_succ])
      refine wpAnyH_ready (rs:=[7]) (by kernel_rfl) (by simp) ?_;refine AllReadyH.cons rfl (fun K hK=>?_) AllReadyH.nil;go_simp
      go_at_call 16
      refine(kB.out _ _ hHeld.2 hpa7).mono ?_;rintro e w8 ⟨rfl,hb8⟩;clear hHeld;refine hK.out _ _ ⟨hC.out _ hb8,hb8⟩ (fun hHeld=>?_);clear hK K
      (try simp only[Act.put]);(try simp only[List.setIfInBounds_toArray]);(try simp only[List.set_cons_zero,List.set_cons_succ])
      refine TkD 8 (some 13) (v:=?_) rfl rfl ?_ ?_;rotate_left
      ·(intro W hSw;(try dsimp only at hSw);go_simp;try with_reducible rfl)
      (try simp only[Act.put]);(try simp only[List.setIfInBounds_toArray]);(try simp only[List.set_cons_zero,List.set_cons_succ])
      refine wpAnyH_done (by kernel_rfl) ?_ _
      go_wp2_with fail
      go_meet;exact⟨rfl,hHeld.2⟩
    case rest=>
     obtain⟨rfl,hb4⟩:=hcut;obtain⟨⟨x0,x1,x2,x3,x4,x5,x6,x7,x8,x9,x10,x11⟩,y0,y1,y2,y3,y4,y5,y6,y7,y8,y9,y10,y11⟩:=hC.out wc hb4
     go_wp2_with fail
     refine(kC.out _ hb4).mono ?_;rintro e w6 ⟨rfl,hb6⟩;clear x0 x1 x2 x3 x4 x5 x6 x7 x8 x9 x10 x11 y0 y1 y2 y3 y4 y5 y6 y7 y8 y9 y10 y11;have HM2:=HM.out;clear HM;cases b1<;>cases b2<;>cases b3<;>first |(exact absurd HM2 (by decide))|skip
     all_goals
      clear HM2
      go_wp2_with fail
      refine(kH2.out _ hb6).mono ?_;rintro e w7 ⟨rfl,hb7⟩
      go_wp2_with fail
      go_ret;exact⟨rfl,hb7⟩
end Go.Proofs.YtfepgodjaeddgaaGreatDoor
