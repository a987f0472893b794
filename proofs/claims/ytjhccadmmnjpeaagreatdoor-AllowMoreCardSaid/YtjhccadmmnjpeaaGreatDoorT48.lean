/-
  lazaretlaw27.AllowStrict.
-/
import Derived.Test.YtjhccadmmnjpeaaGreatDoorT47
set_option maxHeartbeats 8000000
set_option maxRecDepth 100000
namespace Go.Proofs.YtjhccadmmnjpeaaGreatDoor
open Go.RowKit
attribute [local go_sem ↓] Go.wp_at_zero Go.wp_at_succ
theorem append_nil_noneA (w:World) (c:Nat):(Builtin.append_ #[22,22] 22 #[.slice none 0 0,.slice none 0 c]).run Tryz.prog w=.ok (.slice none 0 0) w:=by
 obtain⟨i0,hi,hz0,hz1,hz2⟩:=info_parts infoTxt
 simp[Builtin.append_,run_underlying Tryz.underlying22,sizeOf,typeInfo,hi,Builtin.lenOf,Builtin.firstCells]
theorem op_append_nilA {w:World} {o:Oper} {a:Act} {K:Act->World->Prop} {Q:Exit->Act->World->Prop} (s x:Operand)
  (ho:o.op=.call {callee:=.builtin .append,args:= #[s,x],argTypes:= #[22,22]}) (hty:o.type=22) (base:Nat) (la:Option Addr) (n lc:Nat) (xs:List ByteArray) (hs:a.eval s=.slice none 0 0) (hx:a.eval x=.slice la n lc)
  (hp:PathAt w (.slice la n lc) (xs.map (fun x:ByteArray=>x.data.toList))) (hn:n=xs.length) (hL:n<=1000000) (hbase:base<=w.heap.size)
  (h:∀v' w',w'.ownsRow base 9 1 v' xs.length (xs.map Value.string)->w.grownBy w' none->K (a.put o.dst v') w'):Oper.wp Tryz.prog o a w K Q:=by
 obtain⟨i0,hi,hz0,hz1,hz2⟩:=info_parts infoTxt;obtain⟨a1,c1,ys,he,hys,hc⟩:=hp
 obtain rfl:ys=xs:=by
  exact(List.map_inj_right (fun x y e=>ByteArray.ext (Array.toList_inj.1 e))).1 hys
 injection he with e1 e2 e3
 subst e1;subst e3;cases la with
 | none=>
   have h0:ys=[]:=by
    cases ys with
    | nil=>rfl
    | cons y r=>obtain⟨B,off,e,_⟩:=hc 0 y rfl;cases e
   subst h0;obtain rfl:n=0:=hn;have hr:=append_nil_noneA w lc;unfold Oper.wp execOp;simp only[ho,hty,resolve,invoke,builtin,Sem.run_bind,Sem.run_pure,Result.andThen_ok,List.map_toArray,List.map_cons,List.map_nil,hs,hx,hr];exact h _ _ (World.ownsRow_nil _ _ _ _) ⟨rfl,rfl,rfl,Nat.le_refl _,fun _ _ _=>rfl⟩
 | some ad=>
   obtain⟨v',w',hr,h2,h3,h4,h5⟩:=run_append_own_at (P:=Tryz.prog) w base 22 22 9 i0 (.string ⟨#[]⟩) 1 16 Tryz.underlying22 hi hz0 hz1 hz2 rfl (by decide) (.slice none 0 0) 0 [] (World.ownsRow_nil _ _ _ _) ad n lc (ys.map Value.string) (by rw[List.length_map,hn,Nat.mul_one]) (fun j u hj=>by
    rw[List.getElem?_map]at hj;cases hy:ys[j]? with
    | none=>rw[hy]at hj;cases hj
    | some y=>
      rw[hy]at hj;obtain rfl:=Option.some.inj hj;obtain⟨B,off,e,_,hc2⟩:=hc j y hy;obtain rfl:=Option.some.inj e;rw[show(⟨B,off,none⟩:Addr).add j=⟨B,off+j,none⟩ by unfold Addr.add;split<;>simp_all];exact hc2) (fun u hu=>by obtain⟨y,_,rfl⟩:=List.mem_map.1 hu;rfl) (by unfold maxLen;omega) (by omega) hbase
   rw[Nat.zero_add,List.nil_append,hn]at h2;unfold Oper.wp execOp;simp only[ho,hty,resolve,invoke,builtin,Sem.run_bind,Sem.run_pure,Result.andThen_ok,List.map_toArray,List.map_cons,List.map_nil,hs,hx,hr];exact h _ _ h2 h3
theorem op_append_snocA {w:World} {o:Oper} {a:Act} {K:Act->World->Prop} {Q:Exit->Act->World->Prop} (s x:Operand)
  (ho:o.op=.call {callee:=.builtin .append,args:= #[s,x],argTypes:= #[22,22]}) (hty:o.type=22) (base:Nat) (v:Value) (xs:List ByteArray) (hs:a.eval s=v) (hown:w.ownsRow base 9 1 v xs.length (xs.map Value.string)) (Bm:Nat) (c:Nat) (p:ByteArray) (hx:a.eval x=.slice (some ⟨Bm,0,none⟩) 1 c) (hp:w.cell? ⟨Bm,0,none⟩=some (.string p))
  (hL:xs.length<=1000000) (hbase:base<=w.heap.size)
  (h:∀v' w',w'.ownsRow base 9 1 v' (xs++[p]).length ((xs++[p]).map Value.string)->w.grownBy w' v.ownBlock->K (a.put o.dst v') w'):Oper.wp Tryz.prog o a w K Q:=by
 obtain⟨i0,hi,hz0,hz1,hz2⟩:=info_parts infoTxt
 obtain⟨v',w',hr,h2,h3,h4,h5⟩:=run_append_own_at (P:=Tryz.prog) w base 22 22 9 i0 (.string ⟨#[]⟩) 1 16 Tryz.underlying22 hi hz0 hz1 hz2 rfl (by decide) v xs.length _ hown ⟨Bm,0,none⟩ 1 c [.string p] rfl (fun j u hj=>by
  match j,hj with
  | 0,hj=>
    obtain rfl:=Option.some.inj hj;rw[addr_add];exact hp) (fun u hu=>by rw[List.mem_singleton.1 hu];rfl) (by unfold maxLen;omega) (by omega) hbase
 have e1:xs.map Value.string++[Value.string p]=(xs++[p]).map Value.string:=by simp
 have e2:xs.length+1=(xs++[p]).length:=by simp
 rw[e1,e2]at h2;unfold Oper.wp execOp;simp only[ho,hty,resolve,invoke,builtin,Sem.run_bind,Sem.run_pure,Result.andThen_ok,List.map_toArray,List.map_cons,List.map_nil,hs,hx,hr];exact h _ _ h2 h3
theorem parse_openA (s:ByteArray) (w:World) (hE:EnvU w):Calls Tryz.prog 20 #[.string s,.pointer none] w fun e w'=>∃(v:Value) (n:Int) (u:Lz.UrlL) (q:Bool),e=.returned (.tuple #[v,.int .i64 n])/\Below w.heap.size w w'/\UrlVal w' v u/\(n==0)=q/\Hid ((q=true->Lz.parseU s.data.toList none=.ok u/\UOk u)/\(q=false->∃k,Lz.parseU s.data.toList none=.er k)):=by
 refine(ParseU_any none (.pointer none) s w hE rfl (fun y h=>by cases h)).mono ?_;rintro e w' ⟨v,n,he,hb,hres⟩;obtain⟨u,h1,h2⟩:=hres.cases;rcases h2 with⟨h3,rfl⟩|⟨k,h3,rfl,rfl⟩
 ·exact⟨v,0,u,true,he,hb,h1.val,rfl,Ih ⟨fun _=>⟨h3,⟨Lz.parse_form h3,by have:=Lz.parse_wq0 h3;omega⟩⟩,nofun⟩⟩
 ·have hk:(k:Int)≠0:=by have:=Lz.parse_err h3;omega
  exact⟨v,(k:Int),zeroU,false,he,hb,h1.val,beq_eq_false_iff_ne.2 hk,Ih ⟨nofun,fun _=>⟨k,h3⟩⟩⟩
theorem wpList_append_nilA {w:World} {ops:Array Oper} {rest:List Oper} {o:Oper} {a:Act} {Q:Exit->Act->World->Prop} (hgd:o.guard=none) (s x:Operand)
  (ho:o.op=.call {callee:=.builtin .append,args:= #[s,x],argTypes:= #[22,22]}) (hty:o.type=22) (base:Nat) (la:Option Addr) (n lc:Nat) (xs:List ByteArray) (hs:a.eval s=.slice none 0 0) (hx:a.eval x=.slice la n lc)
  (hp:PathAt w (.slice la n lc) (xs.map (fun x:ByteArray=>x.data.toList))) (hn:n=xs.length) (hL:n<=1000000) (hbase:base<=w.heap.size)
  (h:∀v' w',w'.ownsRow base 9 1 v' xs.length (xs.map Value.string)->w.grownBy w' none->wpList Tryz.prog ops Q rest (a.put o.dst v') w'):wpList Tryz.prog ops Q (o::rest) a w:=
 wpList_plain hgd fun _ hK=>op_append_nilA s x ho hty base la n lc xs hs hx hp hn hL hbase fun v' w' h1 h2=>hK _ _ (h v' w' h1 h2)
theorem wpList_append_snocA {w:World} {ops:Array Oper} {rest:List Oper} {o:Oper} {a:Act} {Q:Exit->Act->World->Prop} (hgd:o.guard=none) (s x:Operand)
  (ho:o.op=.call {callee:=.builtin .append,args:= #[s,x],argTypes:= #[22,22]}) (hty:o.type=22) (base:Nat) (v:Value) (xs:List ByteArray) (hs:a.eval s=v) (hown:w.ownsRow base 9 1 v xs.length (xs.map Value.string)) (Bm:Nat) (c:Nat) (p:ByteArray) (hx:a.eval x=.slice (some ⟨Bm,0,none⟩) 1 c) (hp:w.cell? ⟨Bm,0,none⟩=some (.string p))
  (hL:xs.length<=1000000) (hbase:base<=w.heap.size)
  (h:∀v' w',w'.ownsRow base 9 1 v' (xs++[p]).length ((xs++[p]).map Value.string)->w.grownBy w' v.ownBlock->wpList Tryz.prog ops Q rest (a.put o.dst v') w'):wpList Tryz.prog ops Q (o::rest) a w:=
 wpList_plain hgd fun _ hK=>op_append_snocA s x ho hty base v xs hs hown Bm c p hx hp hL hbase fun v' w' h1 h2=>hK _ _ (h v' w' h1 h2)
theorem bne_qA {m:Int} {q:Bool} (h:(m==0)=q):(m != 0)= !q:=by rw[bne,h]
theorem valsA {w:World} {v:Value} {xs:List ByteArray} (h:PathAt w v (xs.map (fun x:ByteArray=>x.data.toList))) (hn:xs.length<=1000) (hz:∀x∈xs,x.size<=90000):ValsAt w v (xs.map (fun x:ByteArray=>x.data.toList)):=
 ⟨h,by rw[List.length_map];omega,fun x hx=>by
  obtain⟨s,hs,rfl⟩:=List.mem_map.1 hx;rw[len_of_size];exact hz s hs⟩
theorem allowStrict_any {tab:List UInt32} {tab2:List UInt64} (lv:Value) (l:List (List UInt8)) (s nn:ByteArray) (w:World) (hl:PathAt w lv l) (hE:EnvA tab tab2 w):Calls Tryz.prog 7 #[lv,.string s,.string nn] w (RBool true w):=by
 have hl0:=hl;obtain⟨la,lc,xs,rfl,rfl,hx⟩:=hl;obtain⟨n,hn⟩:∃n,n=xs.length:=⟨_,rfl⟩;rw[<-hn]at hl0⊢;have HN:=Ih hn;have HP:Hid (∀V,Below w.heap.size w V->PathAt V (.slice la n lc) (xs.map (fun x:ByteArray=>x.data.toList))):=Ih (fun V hV=>hl0.below hV);have HX:=Ih hx;obtain⟨q,hq⟩:∃q,q=decide (10<n\/300<s.size\/300<nn.size):=⟨_,rfl⟩;have Hq:=Ih hq;have kH:Hid (∀V,Below w.heap.size w V->Calls Tryz.prog 9 #[] V fun e w'=>e=.returned (.bool true)/\Below w.heap.size w w'):=Ih (fun V hV=>(lets27_any tab tab2 V (hE.below hV)).mono fun e w' ⟨h1,h2⟩=>⟨h1,below_call hV h2⟩);have kP00:=fun V (hV:Below w.heap.size w V)=>parse_openA s V (hE.below hV).m.u;have kP0:=Ih kP00;clear kP00;have HE:=Ih hE;clear hq hn hx hl0 hE;go_enter Tryz.func7,Tryz.ntmps7
 go_upto_region 1 with fail
 go_cut [23] (fun s wx=>s=.bool q/\w=wx)
 case first=>
  by_cases h0:10<n
  ·have i0:(10:Int)<(n:Int):=by omega
   have HQ:Hid (q=true):=by show _=_;rw[Hq.out];exact decide_eq_true (Or.inl h0)
   clear h0
   go_wp2_with fail
   go_meet;exact⟨by rw[HQ.out],rfl⟩
  have i0:¬(10:Int)<(n:Int):=by omega
  by_cases h1:300<s.size
  ·have i1:(300:Int)<(s.size:Int):=by omega
   have HQ:Hid (q=true):=by show _=_;rw[Hq.out];exact decide_eq_true (Or.inr (Or.inl h1))
   clear h0 h1
   go_wp2_with fail
   go_meet;exact⟨by rw[HQ.out],rfl⟩
  have i1:¬(300:Int)<(s.size:Int):=by omega
  by_cases h2:300<nn.size
  ·have i2:(300:Int)<(nn.size:Int):=by omega
   have HQ:Hid (q=true):=by show _=_;rw[Hq.out];exact decide_eq_true (Or.inr (Or.inr h2))
   clear h0 h1 h2
   go_wp2_with fail
   go_meet;exact⟨by rw[HQ.out],rfl⟩
  have i2:¬(300:Int)<(nn.size:Int):=by omega
  have HQ:Hid (q=false):=by show _=_;rw[Hq.out];exact decide_eq_false (fun h=>by omega)
  clear h0 h1 h2
  go_wp2_with fail
  go_meet;exact⟨by rw[HQ.out],rfl⟩
 case rest=>
 obtain⟨rfl,rfl⟩:=hcut;cases q with
 | true=>
   go_wp2_with fail
   refine(kH.out _ (Below.refl _ _)).mono ?_;rintro e w5 ⟨rfl,hb5⟩
   go_wp2_with fail
   go_ret;exact⟨rfl,hb5⟩
 | false=>
 have hqf:=of_decide_eq_false Hq.out.symm;have hn10:n<=10:=by omega
 clear hqf Hq
 go_wp2_with fail
 go_loopw [7] (fun i wr=>∃j:Nat,i=.int .i64 j/\j<=n/\Hid (∀x∈xs.take j,x.size<=100)/\w=wr) (fun i _=>n-(intOf i).toNat)
 case atStart=>exact⟨0,rfl,Nat.zero_le _,Ih (fun x hx=>by cases hx),rfl⟩
 case round=>
 obtain⟨j,rfl,hj,hT,rfl⟩:=hrel;by_cases hlt:j<n
 ·have hltI:(j:Int)<(n:Int):=by omega
  have hj0:(0:Int)<=(j:Int):=by omega
  obtain⟨x,hx⟩:∃x,xs[j]? =some x:=⟨_,List.getElem?_eq_getElem (by rw[<-HN.out];exact hlt)⟩;obtain⟨B,off,rfl,hB,hc⟩:=HX.out j x hx;by_cases hz:100<x.size
  ·have hzI:(100:Int)<(x.size:Int):=by omega
   clear hx hz
   go_wp2_with fail
   refine(kH.out _ (Below.refl _ _)).mono ?_;rintro e w5 ⟨rfl,hb5⟩
   go_wp2_with fail
   go_ret;exact⟨rfl,hb5⟩
  ·have hzI:¬(100:Int)<(x.size:Int):=by omega
   have HT:Hid (∀y∈xs.take (j+1),y.size<=100):=Ih (fun y hy=>by
    rw[List.take_add_one,hx]at hy;rcases List.mem_append.1 hy with h|h
    ·exact hT.out y h
    ·rw[List.mem_singleton.1 h];omega)
   clear hx hz
   go_wp2_with fail
   go_roundw
   case rel=>exact⟨j+1,by go_num,by omega,HT,trivial⟩
   case measure=>simp[intOf];omega
 ·have hltI:¬(j:Int)<(n:Int):=by omega
  have HZ:Hid (∀y∈xs,y.size<=100):=by
   show ∀y∈xs,y.size<=100;have:=hT.out
   rwa [List.take_of_length_le (by have:=HN.out;omega)]at this
  clear hT
  go_wp2_with fail
  refine(kP0.out _ (Below.refl _ _)).mono ?_;rintro e w1 ⟨v1,m1,u1,q1,rfl,hb1,hu1,hm1,hz1⟩;obtain⟨sc1,us1,pa1,hh1,hs1,pr1,op1,a1,n1,c1,hq1,hf1,qr1,fr1,rfl,_,_,_,_,_,hu1⟩:=hu1.letters
  go_upto_region 9 with fail
  obtain⟨W1,hW1⟩:∃W1,W1=w1.alloc (.cells #[.string sc1,.string us1,.string pa1,.bool hh1,.string hs1,.int .i64 pr1,.bool op1,.slice a1 n1 c1,.bool hq1,.bool hf1,.string qr1,.string fr1] 36):=⟨_,rfl⟩;have e1:Below w1.heap.size w1 W1:=by rw[hW1];exact(Below.refl _ w1).alloc (Nat.le_refl _) _
  have r1:W1.heap[w1.heap.size]? =some (.cells #[.string sc1,.string us1,.string pa1,.bool hh1,.string hs1,.int .i64 pr1,.bool op1,.slice a1 n1 c1,.bool hq1,.bool hf1,.string qr1,.string fr1] 36 (0,0)):=by rw[hW1];exact heap_new _ _
  have hu1':=hu1.below e1;have hbW1:Below w.heap.size w W1:=below_call hb1 e1;rw[<-hW1];have mq1:=bne_qA hm1;clear hW1 hu1 hb1 e1 hm1;cases q1 with
  | false=>
    have mq1':(m1 != 0)=true:=mq1;clear mq1
    go_wp2_with fail
    refine(kH.out _ hbW1).mono ?_;rintro e w5 ⟨rfl,hb5⟩
    go_wp2_with fail
    go_ret;exact⟨rfl,hb5⟩
  | true=>
  have mq1':(m1 != 0)=false:=mq1;clear mq1;have ho1:=(hz1.out.1 rfl).2;clear hz1;have hpW:=HP.out W1 hbW1
  go_wp2_with (at_builtin;refine wpList_append_nilA rfl (.const (.slice none 0 0)) (.tmp 46) rfl rfl W1.heap.size la n lc xs rfl rfl hpW HN.out (by omega) (Nat.le_refl _) ?_)
  intro v2 w2 hown2 hg2;have hb2:Below W1.heap.size W1 w2:=(Below.refl _ W1).grown hg2 (Nat.le_refl _) (fun k hk=>by cases hk);have Hown2:=Ih hown2;have hb2s:=hb2.size;clear hown2 hg2 hpW
  go_wp2_with (at_builtin;refine wpList_append_snocA rfl (.tmp 47) (.tmp 48) rfl rfl W1.heap.size v2 xs rfl (Hown2.out.alloc _) w2.heap.size 1 strictQ rfl (rowAt (heap_new _ _) 0 _ rfl) (by rw[<-HN.out];omega) (by simp;omega) ?_)
  intro v3 w3 hown3 hg3;have hown3:w3.ownsRow W1.heap.size 9 1 v3 (xs++[strictQ]).length ((xs++[strictQ]).map Value.string):=by rw[List.length_append,List.map_append];exact hown3
  have hb3:Below W1.heap.size W1 w3:=Below.grown1 hb2 Hown2.out hg3 hb2s (Nat.le_refl _)
  have hp3:PathAt w3 v3 ((xs++[strictQ]).map (fun x:ByteArray=>x.data.toList)):=by
   obtain⟨a,c,e,_,hc⟩:=PathOwn.form (Or.inl hown3);exact⟨a,c,_,e,rfl,hc⟩
  have hv3:ValsAt w3 v3 ((xs++[strictQ]).map (fun x:ByteArray=>x.data.toList)):=valsA hp3 (by rw[List.length_append];have:=HN.out;simp;omega) (fun x hx=>by
   rcases List.mem_append.1 hx with h|h
   ·have:=HZ.out x h;omega
   ·rw[List.mem_singleton.1 h];decide)
  have hb03:Below w.heap.size w w3:=below_call hbW1 hb3;have hu3:=hu1'.below hb3;have hE3:=HE.out.below hb03;have hr3:w3.heap[w1.heap.size]? =some (.cells #[.string sc1,.string us1,.string pa1,.bool hh1,.string hs1,.int .i64 pr1,.bool op1,.slice a1 n1 c1,.bool hq1,.bool hf1,.string qr1,.string fr1] 36 (0,0)):=(hb3.block _ (row_lt r1)).trans r1;obtain⟨L,hL⟩:∃L,L=xs.map (fun x:ByteArray=>x.data.toList):=⟨_,rfl⟩;have hLe:(xs++[strictQ]).map (fun x:ByteArray=>x.data.toList)=L++[Lz.strictV]:=by rw[List.map_append,hL];rfl
  rw[hLe]at hv3;obtain⟨z,hz⟩:∃z,z=Lz.nonceP (L++[Lz.strictV]) nn.data.toList:=⟨_,rfl⟩
  have kF:Hid (Calls Tryz.prog 21 #[v3,.agg #[.string sc1,.string us1,.string pa1,.bool hh1,.string hs1,.int .i64 pr1,.bool op1,.slice a1 n1 c1,.bool hq1,.bool hf1,.string qr1,.string fr1],.agg #[.string sc1,.string us1,.string pa1,.bool hh1,.string hs1,.int .i64 pr1,.bool op1,.slice a1 n1 c1,.bool hq1,.bool hf1,.string qr1,.string fr1],.string nn,.string ⟨#[]⟩] w3 (RBool z w3)):=by
   have h:=FetchA_any v3 _ (.agg #[.string sc1,.string us1,.string pa1,.bool hh1,.string hs1,.int .i64 pr1,.bool op1,.slice a1 n1 c1,.bool hq1,.bool hf1,.string qr1,.string fr1]) u1 (.agg #[.string sc1,.string us1,.string pa1,.bool hh1,.string hs1,.int .i64 pr1,.bool op1,.slice a1 n1 c1,.bool hq1,.bool hf1,.string qr1,.string fr1]) u1 nn ⟨#[]⟩ (by decide) w3 hE3.m hv3 hu3 ho1 hu3 ho1;rw[show(⟨#[]⟩:ByteArray).data.toList=[]from rfl,Lz.strict_law Lz.fieldsP Lz.fields_nil,<-hz]at h;exact h
  have kN:Hid (∀V,Below w3.heap.size w3 V->Calls Tryz.prog 14 #[v3,.string nn] V (RBool z V)):=Ih (fun V hV=>by rw[hz];exact NonceA_any v3 _ nn V (hE3.below hV).m.s (hv3.below hV));obtain⟨x0,x1,x2,x3,x4,x5,x6,x7,x8,x9,x10,x11⟩:=row12 hr3
  obtain⟨a3,n3,c3,rfl⟩:∃a n c,v3=.slice a n c:=by
   obtain⟨a,c,e,_⟩:=PathOwn.form (Or.inl hown3);exact⟨a,_,c,e⟩
  clear hown3 hg3 hb2 hb3 hp3 hv3 hE3 hr3 r1 hu1' hu3 hL hLe hz Hown2 HP HX HZ
  go_wp2_with fail
  refine kF.out.mono ?_;rintro e w4 ⟨rfl,hb4⟩;clear x0 x1 x2 x3 x4 x5 x6 x7 x8 x9 x10 x11
  go_wp2_with fail
  refine(kN.out _ hb4).mono ?_;rintro e w5 ⟨rfl,hb5⟩;have hb05:=below_call hb03 (below_call hb4 hb5);cases z
  all_goals
   go_wp2_with fail
   refine(kH.out _ hb05).mono ?_;rintro e w6 ⟨rfl,hb6⟩
   go_wp2_with fail
   go_ret;exact⟨rfl,hb6⟩
end Go.Proofs.YtjhccadmmnjpeaaGreatDoor
