/-
  hosts.six.text.
-/
import Derived.Test.YtjhccadmmnjpeaaGreatDoorT13
import Derived.Test.YtjhccadmmnjpeaaGreatDoorT10
import Derived.Deep.AppendLies
import Derived.Deep.DrawnRows
set_option maxHeartbeats 2000000
set_option maxRecDepth 100000
namespace Go.Proofs.YtjhccadmmnjpeaaGreatDoor
open Go.RowKit
def SlU (w:World) (v:Value) (l:List Nat):Prop:=
 ∃a c,v=.slice a l.length c/\l.length<=1000000/\∀(j:Nat) (b:Nat),l[j]? =some b->∃B off,a=some ⟨B,off,none⟩/\B<w.heap.size/\w.cell? ⟨B,off+j,none⟩=some (.int .u16 (b:Int))
theorem hexD4 {n:Nat} (h:n<65536):(Lz.hexD n).length<=4:=Lz.hexD_len 3 n (by simpa using h)
theorem told_any (v:Value) (l:List Nat) (w:World) (hE:EnvH w) (hl:SlU w v l) (hlt:∀n∈l,n<65536):Calls Tryz.prog 301 #[v] w (RStr (Lz.toldP l) w):=by
 obtain⟨i0,hi,hz0,hz1,hz2⟩:=info_parts infoStr;obtain⟨a,c,rfl,hl9,hcells⟩:=hl;have Hc:=Ih hcells;have Hlt:=Ih hlt;clear hcells hlt;have h0:=World.ownsRow_nil w w.heap.size 9 1;go_enter Tryz.func301,Tryz.ntmps301
 go_wp2
 go_loopw [3,8] (fun a i wr=>∃(j:Nat) (xs:List ByteArray),j<=l.length/\i=.int .i64 j/\Hid (xs.map (·.data.toList)=(l.take j).map Lz.hexD)/\wr.ownsRow w.heap.size 9 1 a j (xs.map Value.string)/\Below w.heap.size w wr) (fun _ i _=>l.length-(intOf i).toNat)
 case atStart=>exact⟨0,[],Nat.zero_le _,rfl,Ih rfl,h0,Below.refl _ w⟩
 case round=>
  clear h0;obtain⟨j,xs,hj,rfl,hxs,hown,hb⟩:=hrel;have hsz:=hb.size;have Hown:=Ih hown;by_cases hlt:j<l.length
  ·have hg:l[j]? =some l[j]:=List.getElem?_eq_getElem hlt;obtain⟨B,off,rfl,hBl,hcv⟩:=Hc.out j l[j] hg;have hcv2:wr.cell? ⟨B,off+j,none⟩=some (.int .u16 l[j]):=by rw[hb.cell (p:=⟨B,off+j,none⟩) hBl];exact hcv
   have htk:l.take (j+1)=l.take j++[l[j]]:=by rw[List.take_add_one,hg];rfl
   have hn:=Hlt.out l[j] (List.getElem_mem hlt);generalize l[j]=n at *;have Htk:=Ih htk;clear htk hg hcv hown;have hn0:(0:Int)<=(n:Int):=by omega
   have hnu:IntKind.u64.wrap (n:Int)=(n:Int):=wrap64 (by omega) (by omega)
   go_wp2_with fail
   refine(FormatUint_16 n (by omega) _ (hE.below hb).db16).mono ?_;rintro e w1 ⟨t,rfl,ht,hb1⟩;have Hown1:=Ih (own_below Hown.out hb1);have hb2:Below w.heap.size w w1:=below_call hb hb1;have hsz2:=hb2.size;have hst:xs.map Value.string++[Value.string t]=(xs++[t]).map Value.string:=by simp
   have Hst:=Ih hst
   have hxs2:Hid ((xs++[t]).map (·.data.toList)=(l.take (j+1)).map Lz.hexD):=by
    show _=_;rw[Htk.out,List.map_append,List.map_append,hxs.out,List.map_singleton,List.map_singleton,ht.out,Lz.baseD_hex]
   clear hst Htk
   go_wp2_with (at_builtin;refine wpList_append_own _ rfl (.tmp 12) (.tmp 16) 22 rfl w.heap.size 9 i0 (.string ⟨#[]⟩) 1 16 Tryz.underlying22 hi hz0 hz1 hz2 rfl (by decide) _ _ _ rfl (Hown1.out.alloc _) ⟨w1.heap.size,0,none⟩ 1 1 [.string t] rfl rfl (cell_one _ _ _) (by simp[Value.oneCell']) (by unfold maxLen;omega) (by omega) (by simp;omega) ?_)
   intro v' w3 hown' hgrow _;have hb3:=Below.grown1 hb2 Hown1.out hgrow hsz2 (Nat.le_refl _);rw[Hst.out]at hown';have Hown3:=Ih hown';clear hown' hgrow
   go_wp2
   go_roundw
   case rel=>exact⟨j+1,xs++[t],by omega,by go_num,hxs2.out,Hown3.out,hb3⟩
   case measure=>simp[intOf];omega
  ·have hjl:j=l.length:=by omega
   have hlj:¬j<l.length:=hlt;have HD:Hid (xs.map (·.data.toList)=l.map Lz.hexD):=by show _=_;rw[hxs.out,hjl,List.take_length]
   have hxl:xs.length=j:=by have:=hown.1;simpa using this
   by_cases h1:j=0
   ·obtain⟨a0,c0,rfl⟩:∃a c,u3=.slice a 0 c:=by
     rw[h1]at hown;rcases hown.2 with⟨h,_⟩|⟨g,cap,cur,h,_⟩
     ·exact⟨_,_,h⟩
     ·exact⟨_,_,h⟩
    have HL:Hid (Lz.toldP l=[]):=by
     show _=_;rw[List.length_eq_zero_iff.1 (show l.length=0 by omega)];rfl
    clear hown Hown hxl hjl hlt hxs h1
    go_wp2_with fail
    with_reducible refine(Join_z a0 c0 ⟨#[58]⟩ _).mono ?_
    rintro e w1 ⟨u,rfl,hu,hb1⟩
    go_wp2
    go_ret;exact⟨u,rfl,Ih (by rw[hu.out,HL.out]),below_call hb hb1⟩
   ·obtain⟨b,cap,rfl,hcap,hT⟩:=texts_own hown (by omega)
    have hxx:∀x,x∈xs->x.size<=4:=by
     intro x hx;have h1:x.data.toList∈l.map Lz.hexD:=by rw[<-HD.out];exact List.mem_map_of_mem hx
     obtain⟨n,hn,hc⟩:=List.mem_map.1 h1;rw[<-len_of_size,<-hc];exact hexD4 (Hlt.out n hn)
    have HX:=Ih hxx;have HT:=Ih hT;have Hcap:=Ih hcap;have hxn:Hid (xs.length<=1000000):=by show _<=_;omega
    clear hxx hT hown Hown hxl hjl hcap hlt hxs
    go_wp2_with fail
    with_reducible refine(Join_c b cap xs ⟨#[58]⟩ _ HT.out Hcap.out hxn.out 4 (by omega) HX.out (by decide)).mono ?_
    rintro e w1 ⟨u,rfl,hu,hb1⟩
    go_wp2
    go_ret;refine⟨u,rfl,Ih ?_,below_call hb hb1⟩;rw[hu.out,HD.out];rfl
attribute [local go_sem ↓] Go.wp_at_zero Go.wp_at_succ
theorem six_size:(Tryz.prog.info? 296).map (·.size)=some 8:=by kernel_rfl
theorem six_len:Tryz.prog.arrayLen 296=8:=by simp[Program.arrayLen,Tryz.underlying296]
theorem six_from (B t:Nat) (ht:t<=8):∃a,(∀W,(Instr.sliceAt 296 (.pointer (some ⟨B,0,none⟩)) (some (.int .i64 (t:Int))) none none).run Tryz.prog W=.ok (.slice a (8-t) (8-t)) W)/\(t<8->a=some ⟨B,t,none⟩):=by
 by_cases h:t=8
 ·subst h;refine⟨some ⟨B,0,none⟩,fun W=>?_,fun h=>absurd h (by omega)⟩;rw[run_sliceAt_array_l W 296 ⟨B,0,none⟩ (by simp[Program.arrayLen,Program.elem,Tryz.underlying296]) .i64 ((8:Nat):Int) (by omega) (by rw[six_len];omega)];go_simp
 ·refine⟨some ⟨B,t,none⟩,fun W=>?_,fun _=>rfl⟩;rw[run_sliceAt_array_l W 296 ⟨B,0,none⟩ (by simp[Program.arrayLen,Program.elem,Tryz.underlying296]) .i64 (t:Int) (by omega) (by rw[six_len];omega)];go_simp;intro h;omega
theorem six_to (B t:Nat) (ht:t<=8) (W:World):(Instr.sliceAt 296 (.pointer (some ⟨B,0,none⟩)) none (some (.int .i64 (t:Int))) none).run Tryz.prog W=.ok (.slice (some ⟨B,0,none⟩) t 8) W:=by
 rw[run_sliceAt_array_h W 296 ⟨B,0,none⟩ (by simp[Program.arrayLen,Program.elem,Tryz.underlying296]) .i64 (t:Int) (by omega) (by rw[six_len];omega)];go_simp
theorem told_len (l:List Nat) (h:∀n∈l,n<65536) (h8:l.length<=8):(Lz.toldP l).length<=40:=by
 have hj:=join_len [58] 4 (l.map Lz.hexD) (by
  intro x hx;obtain⟨n,hn,rfl⟩:=List.mem_map.1 hx;exact hexD4 (h n hn))
 rw[joinP_eq,List.length_map]at hj;unfold Lz.toldP
 simp at hj;omega
theorem text_any (l:List Nat) (h8:l.length=8) (hlt:∀n∈l,n<65536) (w:World) (hE:EnvH w):Calls Tryz.prog 271 #[sixV l] w (RStr (Lz.textP l) w):=by
 have cR:=fun W=>run_any l h8 W;unfold sixV at cR⊢;obtain⟨cs,hcs⟩:∃cs,cs=(l.map fun n:Nat=>Value.int .u16 (n:Int)).toArray:=⟨_,rfl⟩;rw[<-hcs]at cR⊢;obtain⟨w1,hw1⟩:∃w1,w1=w.alloc (.cells cs 296):=⟨_,rfl⟩;have hr:w1.heap[w.heap.size]? =some (.cells cs 296 (0,0)):=by rw[hw1];exact heap_alloc_new w _
 have hc:∀j x,l[j]? =some x->w1.cell? ⟨w.heap.size,j,none⟩=some (.int .u16 (x:Nat)):=by
  intro j x hj;rw[hw1,World.cell?_alloc_mark,hcs]
  simp[hj]
 have hlw:w.heap.size<w1.heap.size:=by rw[hw1];simp
 have hb1:Below w.heap.size w w1:=by rw[hw1];exact(Below.refl _ w).alloc (Nat.le_refl _) _
 have hcz:(Tryz.prog.info? 296).map (·.size)=some cs.size:=by rw[six_size,hcs];simp[h8]
 have hsl:∀a n k (W:World),Below w1.heap.size w1 W->(0<n->a=some ⟨w.heap.size,k,none⟩)->k+n<=8->∀c,SlU W (.slice a n c) ((l.drop k).take n):=by
  intro a n k W hW ha hk c;have hln:((l.drop k).take n).length=n:=by simp;omega
  refine⟨a,c,by rw[hln],by rw[hln];omega,fun j b hj=>?_⟩;have hjn:j<n:=by have:=(List.getElem?_eq_some_iff.1 hj).1;omega
  rw[List.getElem?_take,if_pos hjn,List.getElem?_drop]at hj;exact⟨_,_,ha (by omega),Nat.lt_of_lt_of_le hlw hW.size,by rw[hW.cell (p:=⟨w.heap.size,k+j,none⟩) hlw];exact hc _ _ hj⟩
 have cT:∀a n k (W:World),Below w1.heap.size w1 W->(0<n->a=some ⟨w.heap.size,k,none⟩)->k+n<=8->∀c,Calls Tryz.prog 301 #[.slice a n c] W (RStr (Lz.toldP ((l.drop k).take n)) W):=
  fun a n k W hW ha hk c=>told_any _ _ W (hE.below (below_call hb1 hW)) (hsl a n k W hW ha hk c) (fun x hx=>hlt x (List.mem_of_mem_drop (List.mem_of_mem_take hx)))
 obtain⟨f,hf⟩:∃f,f=(Lz.runP 0 l (0,0)).1:=⟨_,rfl⟩;obtain⟨t,ht⟩:∃t,t=(Lz.runP 0 l (0,0)).2:=⟨_,rfl⟩;have hrun:=Lz.run_ok0 l
 have hft:f<=8/\t<=8:=by
  rw[hf,ht];rcases hrun with h|⟨h1,h2,_⟩
  ·rw[h];simp
  ·omega
 have HT:Hid (Lz.textP l=if f=t then Lz.toldP l else Lz.toldP (l.take f)++[58,58]++Lz.toldP (l.drop t)):=by show _=_;rw[hf,ht];rfl
 unfold RRun at cR;rw[<-hf,<-ht]at cR;have CR:=Ih cR;have CT:=Ih cT;have Hr:=Ih hr;have H8:=Ih h8;have Hlt:=Ih hlt;clear cR cT hr h8 hsl hc hf ht hrun hlt hcs;have Hcz:=Ih hcz;clear hcz;obtain⟨hf8,ht8⟩:=hft;go_enter Tryz.func271,Tryz.ntmps271
 go_upto_region 1 with fail
 rw[<-hw1];clear hw1
 go_wp2_with (refine wpList_load_row rfl 296 _ rfl w.heap.size rfl 296 _ (0,0) _ Hr.out Tryz.underlying296 rfl Hcz.out ?_)
 with_reducible refine(CR.out _).mono ?_
 rintro e w2 ⟨rfl,hb2⟩;have hbw2:=below_call hb1 hb2;by_cases hft:f=t
 ·have hftb:((f:Int)==(t:Int))=true:=by rw[hft];simp
  have hT2:Hid (Lz.textP l=Lz.toldP l):=by show _=_;rw[HT.out,if_pos hft]
  have hall:∀W,(Instr.sliceAt 296 (.pointer (some ⟨w.heap.size,0,none⟩)) none none none).run Tryz.prog W=.ok (.slice (some ⟨w.heap.size,0,none⟩) 8 8) W:=fun W=>by
   rw[run_sliceAt_array_all W 296 ⟨w.heap.size,0,none⟩ (by simp[Program.arrayLen,Program.elem,Tryz.underlying296])];rw[six_len];go_simp
  have c8:=CT.out (some ⟨w.heap.size,0,none⟩) 8 0 w2 hb2 (fun _=>rfl) (by omega) 8;rw[List.drop_zero,List.take_of_length_le (by rw[H8.out];exact Nat.le_refl _),<-hT2.out]at c8;have C8:=Ih c8;clear c8 CT CR hft HT hT2
  go_wp2_with fail
  with_reducible refine C8.out.mono ?_
  rintro e w3 ⟨u,rfl,hu,hb3⟩
  go_wp2
  go_ret;exact⟨u,rfl,hu,below_call hbw2 hb3⟩
 ·have hftb:((f:Int)==(t:Int))=false:=beq_eq_false_iff_ne.2 (by omega);have hT2:Hid (Lz.textP l=Lz.toldP (l.take f)++[58,58]++Lz.toldP (l.drop t)):=by show _=_;rw[HT.out,if_neg hft]
  have hto:=six_to w.heap.size f hf8;obtain⟨a2,hfr,ha2⟩:=six_from w.heap.size t ht8;have c1:=fun W hW=>CT.out (some ⟨w.heap.size,0,none⟩) f 0 W hW (fun _=>rfl) (by omega) 8;have c2:=fun W hW=>CT.out a2 (8-t) t W hW (fun h=>ha2 (by omega)) (by omega) (8-t);rw[List.drop_zero]at c1;rw[List.take_of_length_le (l:=l.drop t) (by rw[List.length_drop,H8.out];exact Nat.le_refl _)]at c2;have hz1:=told_len (l.take f) (fun n hn=>Hlt.out n (List.mem_of_mem_take hn)) (by simp;omega);have hz2:=told_len (l.drop t) (fun n hn=>Hlt.out n (List.mem_of_mem_drop hn)) (by rw[List.length_drop,H8.out];omega);have C1:=Ih c1;have C2:=Ih c2;clear c1 c2 CT CR hft HT ha2
  go_upto_region 4 with fail
  go_region_with (first |(go_at_call 301;(with_reducible refine(C1.out _ hb2.drew).mono ?_);rintro e w3 ⟨u1,rfl,hu1,hb3⟩;have hk1:u1.size<=40:=(by rw[<-len_of_size,hu1.out];exact hz1);have hk2:¬(9223372036854775807<u1.size+2):=(by omega))|(go_at_call 301;(with_reducible refine(C2.out _ (below_call hb2.drew hb3)).mono ?_);rintro e w4 ⟨u2,rfl,hu2,hb4⟩;have hk3:u2.size<=40:=(by rw[<-len_of_size,hu2.out];exact hz2);have hk4:¬(9223372036854775807<u1.size+2+u2.size):=(by omega)))
  go_wp2
  go_ret;refine⟨_,rfl,Ih ?_,below_call (below_call hbw2.drew hb3) hb4⟩;rw[append_data',append_data',hu1.out,hu2.out,hT2.out]
end Go.Proofs.YtjhccadmmnjpeaaGreatDoor
