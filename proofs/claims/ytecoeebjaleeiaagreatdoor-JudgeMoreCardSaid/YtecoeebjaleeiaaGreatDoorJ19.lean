/-
  hosts.four: the IPv4 address that labels write.
-/
import Derived.Test.YtecoeebjaleeiaaGreatDoorJ12
import Derived.Deep.RegionHeld3
import Derived.Deep.AppendLies
import Derived.Deep.DrawnRows
set_option maxHeartbeats 2000000
set_option maxRecDepth 100000
namespace Go.Proofs.YtecoeebjaleeiaaGreatDoor
open Go.RowKit
def SlU (w:World) (v:Value) (l:List Nat):Prop:=
 ∃a c,v=.slice a l.length c/\l.length<=1000000/\∀(j:Nat) (b:Nat),l[j]? =some b->∃B off,a=some ⟨B,off,none⟩/\B<w.heap.size/\w.cell? ⟨B,off+j,none⟩=some (.int .u16 (b:Int))
theorem SX {n:Nat} (h:n<65536):(Lz.iz n).length<=4:=Lz.wI 3 n (by simpa using h)
theorem OI (v:Value) (l:List Nat) (w:World) (hE:dQ w) (hl:SlU w v l) (aV:∀n∈l,n<65536):Calls Tryz.prog 244 #[v] w (gJ (Lz.cl l) w):=by
 obtain⟨i0,hi,fI,ei,eM⟩:=info_parts Jf;obtain⟨a,c,rfl,hl9,aA⟩:=hl;have Hc:=Ih aA;have Hlt:=Ih aV;clear aA aV;have h0:=World.ownsRow_nil w w.heap.size 9 1;go_enter Tryz.func244,Tryz.ntmps244
 go_wp2
 go_loopw [3,8] (fun a i wr=>∃(j:Nat) (xs:List ByteArray),j<=l.length/\i=.int .i64 j/\Hid (xs.map (·.data.toList)=(l.take j).map Lz.iz)/\wr.ownsRow w.heap.size 9 1 a j (xs.map Value.string)/\Below w.heap.size w wr) (fun _ i _=>l.length-(intOf i).toNat)
 case atStart=>exact⟨0,[],Nat.zero_le _,rfl,Ih rfl,h0,Below.refl _ w⟩
 case round=>
  clear h0;obtain⟨j,xs,hj,rfl,gW,au,hb⟩:=hrel;have ju:=hb.size;have ew:=Ih au;by_cases aV:j<l.length
  ·have hg:l[j]? =some l[j]:=List.getElem?_eq_getElem aV;obtain⟨B,off,rfl,hBl,pJ⟩:=Hc.out j l[j] hg;have Z9:wr.cell? ⟨B,off+j,none⟩=some (.int .u16 l[j]):=by rw[hb.cell (p:=⟨B,off+j,none⟩) hBl];exact pJ
   have gH:l.take (j+1)=l.take j++[l[j]]:=by rw[List.take_add_one,hg];rfl
   have hn:=Hlt.out l[j] (List.getElem_mem aV);generalize l[j]=n at *;have Lr:=Ih gH;clear gH hg pJ au;have yd:(0:Int)<=(n:Int):=by omega
   have WN:IntKind.u64.wrap (n:Int)=(n:Int):=wrap64 (by omega) (by omega)
   go_wp2_with fail
   refine(yT n (by omega) _ (hE.below hb).db16).mono ?_;rintro e w1 ⟨t,rfl,ht,ar⟩;have gV:=Ih (bH ew.out ar);have az:Below w.heap.size w w1:=ac hb ar;have ye:=az.size;have hst:xs.map Value.string++[Value.string t]=(xs++[t]).map Value.string:=by simp
   have gM:=Ih hst
   have Ww:Hid ((xs++[t]).map (·.data.toList)=(l.take (j+1)).map Lz.iz):=by
    show _=_;rw[Lr.out,List.map_append,List.map_append,gW.out,List.map_singleton,List.map_singleton,ht.out,Lz.K1]
   clear hst Lr
   go_wp2_with (at_builtin;refine wpList_append_own _ rfl (.tmp 12) (.tmp 16) 30 rfl w.heap.size 9 i0 (.string ⟨#[]⟩) 1 16 Tryz.underlying30 hi fI ei eM rfl (by decide) _ _ _ rfl (gV.out.alloc _) ⟨w1.heap.size,0,none⟩ 1 1 [.string t] rfl rfl (bD _ _ _) (by simp[Value.oneCell']) (by unfold maxLen;omega) (by omega) (by simp;omega) ?_)
   intro v' w3 bf cp _;have aO:=Below.grown1 az gV.out cp ye (Nat.le_refl _);rw[gM.out]at bf;have fi:=Ih bf;clear bf cp
   go_wp2
   go_roundw
   case rel=>exact⟨j+1,xs++[t],by omega,by go_num,Ww.out,fi.out,aO⟩
   case measure=>simp[intOf];omega
  ·have nP:j=l.length:=by omega
   have Ix:¬j<l.length:=aV;have HD:Hid (xs.map (·.data.toList)=l.map Lz.iz):=by show _=_;rw[gW.out,nP,List.take_length]
   have o7:xs.length=j:=by have:=au.1;simpa using this
   by_cases h1:j=0
   ·obtain⟨a0,c0,rfl⟩:∃a c,u3=.slice a 0 c:=by
     rw[h1]at au;rcases au.2 with⟨h,_⟩|⟨g,cap,dB,h,_⟩
     ·exact⟨_,_,h⟩
     ·exact⟨_,_,h⟩
    have HL:Hid (Lz.cl l=[]):=by
     show _=_;rw[List.length_eq_zero_iff.1 (show l.length=0 by omega)];rfl
    clear au ew o7 nP aV gW h1
    go_wp2_with fail
    with_reducible refine(UW a0 c0 ⟨#[58]⟩ _).mono ?_
    rintro e w1 ⟨u,rfl,hu,ar⟩
    go_wp2
    go_ret;exact⟨u,rfl,Ih (by rw[hu.out,HL.out]),ac hb ar⟩
   ·obtain⟨b,cap,rfl,iW,hT⟩:=An au (by omega)
    have Xe:∀x,x∈xs->x.size<=4:=by
     intro x hx;have h1:x.data.toList∈l.map Lz.iz:=by rw[<-HD.out];exact List.mem_map_of_mem hx
     obtain⟨n,hn,hc⟩:=List.mem_map.1 h1;rw[<-aa,<-hc];exact SX (Hlt.out n hn)
    have HX:=Ih Xe;have HT:=Ih hT;have VL:=Ih iW;have ZX:Hid (xs.length<=1000000):=by show _<=_;omega
    clear Xe hT au ew o7 nP iW aV gW
    go_wp2_with fail
    with_reducible refine(Ol b cap xs ⟨#[58]⟩ _ HT.out VL.out ZX.out 4 (by omega) HX.out (by decide)).mono ?_
    rintro e w1 ⟨u,rfl,hu,ar⟩
    go_wp2
    go_ret;refine⟨u,rfl,Ih ?_,ac hb ar⟩;rw[hu.out,HD.out];rfl
attribute [local go_sem ↓] Go.wp_at_zero Go.wp_at_succ
theorem jG:(Tryz.prog.info? 268).map (·.size)=some 8:=by kernel_rfl
theorem rH:Tryz.prog.arrayLen 268=8:=by simp[Program.arrayLen,Tryz.underlying268]
theorem Da (B t:Nat) (ht:t<=8):∃a,(∀W,(Instr.sliceAt 268 (.pointer (some ⟨B,0,none⟩)) (some (.int .i64 (t:Int))) none none).run Tryz.prog W=.ok (.slice a (8-t) (8-t)) W)/\(t<8->a=some ⟨B,t,none⟩):=by
 by_cases h:t=8
 ·subst h;refine⟨some ⟨B,0,none⟩,fun W=>?_,fun h=>absurd h (by omega)⟩;rw[run_sliceAt_array_l W 268 ⟨B,0,none⟩ (by simp[Program.arrayLen,Program.elem,Tryz.underlying268]) .i64 ((8:Nat):Int) (by omega) (by rw[rH];omega)];go_simp
 ·refine⟨some ⟨B,t,none⟩,fun W=>?_,fun _=>rfl⟩;rw[run_sliceAt_array_l W 268 ⟨B,0,none⟩ (by simp[Program.arrayLen,Program.elem,Tryz.underlying268]) .i64 (t:Int) (by omega) (by rw[rH];omega)];go_simp;intro h;omega
theorem VA (B t:Nat) (ht:t<=8) (W:World):(Instr.sliceAt 268 (.pointer (some ⟨B,0,none⟩)) none (some (.int .i64 (t:Int))) none).run Tryz.prog W=.ok (.slice (some ⟨B,0,none⟩) t 8) W:=by
 rw[run_sliceAt_array_h W 268 ⟨B,0,none⟩ (by simp[Program.arrayLen,Program.elem,Tryz.underlying268]) .i64 (t:Int) (by omega) (by rw[rH];omega)];go_simp
theorem oN (l:List Nat) (h:∀n∈l,n<65536) (h8:l.length<=8):(Lz.cl l).length<=40:=by
 have hj:=DC [58] 4 (l.map Lz.iz) (by
  intro x hx;obtain⟨n,hn,rfl⟩:=List.mem_map.1 hx;exact SX (h n hn))
 rw[rG,List.length_map]at hj;unfold Lz.cl
 simp at hj;omega
theorem MC (l:List Nat) (h8:l.length=8) (aV:∀n∈l,n<65536) (w:World) (hE:dQ w):Calls Tryz.prog 203 #[FI l] w (gJ (Lz.fv l) w):=by
 have cR:=fun W=>Rs l h8 W;unfold FI at cR⊢;obtain⟨cs,iZ⟩:∃cs,cs=(l.map fun n:Nat=>Value.int .u16 (n:Int)).toArray:=⟨_,rfl⟩;rw[<-iZ]at cR⊢;obtain⟨w1,km⟩:∃w1,w1=w.alloc (.cells cs 268):=⟨_,rfl⟩;have hr:w1.heap[w.heap.size]? =some (.cells cs 268 (0,0)):=by rw[km];exact heap_alloc_new w _
 have hc:∀j x,l[j]? =some x->w1.cell? ⟨w.heap.size,j,none⟩=some (.int .u16 (x:Nat)):=by
  intro j x hj;rw[km,World.cell?_alloc_mark,iZ]
  simp[hj]
 have Fj:w.heap.size<w1.heap.size:=by rw[km];simp
 have ar:Below w.heap.size w w1:=by rw[km];exact(Below.refl _ w).alloc (Nat.le_refl _) _
 have hcz:(Tryz.prog.info? 268).map (·.size)=some cs.size:=by rw[jG,iZ];simp[h8]
 have zr:∀a n k (W:World),Below w1.heap.size w1 W->(0<n->a=some ⟨w.heap.size,k,none⟩)->k+n<=8->∀c,SlU W (.slice a n c) ((l.drop k).take n):=by
  intro a n k W hW ha hk c;have O6:((l.drop k).take n).length=n:=by simp;omega
  refine⟨a,c,by rw[O6],by rw[O6];omega,fun j b hj=>?_⟩;have Fx:j<n:=by have:=(List.getElem?_eq_some_iff.1 hj).1;omega
  rw[List.getElem?_take,if_pos Fx,List.getElem?_drop]at hj;exact⟨_,_,ha (by omega),Nat.lt_of_lt_of_le Fj hW.size,by rw[hW.cell (p:=⟨w.heap.size,k+j,none⟩) Fj];exact hc _ _ hj⟩
 have cT:∀a n k (W:World),Below w1.heap.size w1 W->(0<n->a=some ⟨w.heap.size,k,none⟩)->k+n<=8->∀c,Calls Tryz.prog 244 #[.slice a n c] W (gJ (Lz.cl ((l.drop k).take n)) W):=
  fun a n k W hW ha hk c=>OI _ _ W (hE.below (ac ar hW)) (zr a n k W hW ha hk c) (fun x hx=>aV x (List.mem_of_mem_drop (List.mem_of_mem_take hx)))
 obtain⟨f,hf⟩:∃f,f=(Lz.iA 0 l (0,0)).1:=⟨_,rfl⟩;obtain⟨t,ht⟩:∃t,t=(Lz.iA 0 l (0,0)).2:=⟨_,rfl⟩;have oT:=Lz.IG l
 have Qg:f<=8/\t<=8:=by
  rw[hf,ht];rcases oT with h|⟨h1,h2,_⟩
  ·rw[h];simp
  ·omega
 have HT:Hid (Lz.fv l=if f=t then Lz.cl l else Lz.cl (l.take f)++[58,58]++Lz.cl (l.drop t)):=by show _=_;rw[hf,ht];rfl
 unfold Y9 at cR;rw[<-hf,<-ht]at cR;have CR:=Ih cR;have CT:=Ih cT;have Hr:=Ih hr;have H8:=Ih h8;have Hlt:=Ih aV;clear cR cT hr h8 zr hc hf ht oT aV iZ;have Hcz:=Ih hcz;clear hcz;obtain⟨hf8,ht8⟩:=Qg;go_enter Tryz.func203,Tryz.ntmps203
 go_upto_region 1 with fail
 rw[<-km];clear km
 go_wp2_with (refine wpList_load_row rfl 268 _ rfl w.heap.size rfl 268 _ (0,0) _ Hr.out Tryz.underlying268 rfl Hcz.out ?_)
 with_reducible refine(CR.out _).mono ?_
 rintro e w2 ⟨rfl,az⟩;have ft:=ac ar az;by_cases Qg:f=t
 ·have abJ:((f:Int)==(t:Int))=true:=by rw[Qg];simp
  have AI:Hid (Lz.fv l=Lz.cl l):=by show _=_;rw[HT.out,if_pos Qg]
  have fq:∀W,(Instr.sliceAt 268 (.pointer (some ⟨w.heap.size,0,none⟩)) none none none).run Tryz.prog W=.ok (.slice (some ⟨w.heap.size,0,none⟩) 8 8) W:=fun W=>by
   rw[run_sliceAt_array_all W 268 ⟨w.heap.size,0,none⟩ (by simp[Program.arrayLen,Program.elem,Tryz.underlying268])];rw[rH];go_simp
  have c8:=CT.out (some ⟨w.heap.size,0,none⟩) 8 0 w2 az (fun _=>rfl) (by omega) 8;rw[List.drop_zero,List.take_of_length_le (by rw[H8.out];exact Nat.le_refl _),<-AI.out]at c8;have C8:=Ih c8;clear c8 CT CR Qg HT AI
  go_wp2_with fail
  with_reducible refine C8.out.mono ?_
  rintro e w3 ⟨u,rfl,hu,aO⟩
  go_wp2
  go_ret;exact⟨u,rfl,hu,ac ft aO⟩
 ·have abJ:((f:Int)==(t:Int))=false:=beq_eq_false_iff_ne.2 (by omega);have AI:Hid (Lz.fv l=Lz.cl (l.take f)++[58,58]++Lz.cl (l.drop t)):=by show _=_;rw[HT.out,if_neg Qg]
  have hto:=VA w.heap.size f hf8;obtain⟨a2,lX,yw⟩:=Da w.heap.size t ht8;have c1:=fun W hW=>CT.out (some ⟨w.heap.size,0,none⟩) f 0 W hW (fun _=>rfl) (by omega) 8;have c2:=fun W hW=>CT.out a2 (8-t) t W hW (fun h=>yw (by omega)) (by omega) (8-t);rw[List.drop_zero]at c1;rw[List.take_of_length_le (l:=l.drop t) (by rw[List.length_drop,H8.out];exact Nat.le_refl _)]at c2;have ei:=oN (l.take f) (fun n hn=>Hlt.out n (List.mem_of_mem_take hn)) (by simp;omega);have eM:=oN (l.drop t) (fun n hn=>Hlt.out n (List.mem_of_mem_drop hn)) (by rw[List.length_drop,H8.out];omega);have C1:=Ih c1;have C2:=Ih c2;clear c1 c2 CT CR Qg HT yw
  go_upto_region 4 with fail
  go_region_with (first |(go_at_call 244;(with_reducible refine(C1.out _ az.drew).mono ?_);rintro e w3 ⟨u1,rfl,jR,aO⟩;have zo:u1.size<=40:=(by rw[<-aa,jR.out];exact ei);have XY:¬(9223372036854775807<u1.size+2):=(by omega))|(go_at_call 244;(with_reducible refine(C2.out _ (ac az.drew aO)).mono ?_);rintro e w4 ⟨u2,rfl,qM,dy⟩;have hk3:u2.size<=40:=(by rw[<-aa,qM.out];exact eM);have hk4:¬(9223372036854775807<u1.size+2+u2.size):=(by omega)))
  go_wp2
  go_ret;refine⟨_,rfl,Ih ?_,ac (ac ft.drew aO) dy⟩;rw[be,be,jR.out,qM.out,AI.out]
end Go.Proofs.YtecoeebjaleeiaaGreatDoor
namespace Lz
open Go
theorem AF (many v k:Nat) (h:k<many):(gN many v).take (many-k)=(gN many v).take (many-(k+1))++[v / 256^k%256]:=by
 have e:many-k=(many-(k+1))+1:=by omega
 rw[e,List.take_add_one];congr 1;unfold gN;rw[List.getElem?_map,List.getElem?_reverse (by simp;omega)];simp only[List.length_range];rw[List.getElem?_range (by omega)];simp only[Option.map_some,Option.toList_some];rw[show many-1-(many-(k+1))=k by omega]
theorem zF (many v:Nat):(gN many v).take 0=[]:=rfl
theorem At (many v:Nat):(gN many v).take many=gN many v:=List.take_of_length_le (by rw[rO];exact Nat.le_refl _)
end Lz
namespace Go.Proofs.YtecoeebjaleeiaaGreatDoor
open Go.RowKit
def S1 (o:Option (List UInt8)) (w:World) (e:Ending) (w':World):Prop:=
 Below w.heap.size w w'/\match o with
  | some t=>∃u:ByteArray,e=.returned (.tuple #[.string u,.nilIface])/\Hid (u.data.toList=t)
  | none=>∃v d,d<=2/\e=.returned (.tuple #[.string ⟨#[]⟩,v])/\dF w' 71 d v
theorem nj {w wx:World} {s:ByteArray} {u:Value} {d:Nat} {t:TypeId} {fr:Nat×Nat} (hb:Below w.heap.size w wx) (hu:dF wx 71 d u) (hd:d<=1):
  S1 none w (.returned (.tuple #[.string ⟨#[]⟩,.iface 263 (.pointer (some ⟨wx.heap.size,0,none⟩))])) (wx.alloc (.cells #[.string s,u] t fr)):=
 ⟨hb.alloc hb.size _,_,_,Nat.succ_le_succ hd,rfl,gx hu⟩
theorem vH (v k:Nat):(v:Int) / 2^(8*k)=((v / 256^k:Nat):Int):=by
 rw[show(2:Int)^(8*k)=((256^k:Nat):Int) by rw[Int.pow_mul];simp]
 simp
theorem RB {w:World} {base:Nat} {v:Value} {n:Nat} {l:List Nat} (h:w.ownsRow base 5 1 v n (u8n l)) (hl:∀x∈l,x<256):SlB w v (l.map UInt8.ofNat):=by
 have ba:l.length=n:=by have:=h.1;simpa [u8n]using this
 rcases h.2 with⟨rfl,h0⟩|⟨g,cap,dB,rfl,Lw,hg,TW,gL,iZ,gH⟩
 ·obtain rfl:l=[]:=List.length_eq_zero_iff.1 (by omega);exact⟨none,0,rfl,by simp,fun j b hj=>by simp at hj⟩
 ·refine⟨some ⟨g,0,none⟩,cap,by rw[List.length_map,ba],by rw[List.length_map];unfold maxLen at gL;omega,fun j b hj=>?_⟩;refine⟨g,0,rfl,(Array.getElem?_eq_some_iff.1 hg).1,?_⟩;rw[List.getElem?_map]at hj;cases hx:l[j]? with
  | none=>rw[hx]at hj;cases hj
  | some x=>
    rw[hx]at hj;have hb:UInt8.ofNat x=b:=Option.some.inj hj;have h2:(u8n l)[j]? =some (.int .u8 (x:Int)):=by simp[u8n,hx]
    rw[<-gH,List.getElem?_take]at h2;split at h2
    ·have Qj:=hl x (List.mem_of_getElem? hx);have az:(b.toNat:Int)=x:=by rw[<-hb];simp;omega
     rw[az,Nat.zero_add];simp only[World.cell?,hg];simpa using h2
    ·cases h2
theorem OA (b cap:Nat) (xs:List ByteArray) (h1:1<=xs.length) (hn:xs.length<=1000000) (hx:∀x,x∈xs->x.size<=1048576) (w:World) (hE:dQ w) (hT:gy w b xs):
  Calls Tryz.prog 247 #[.slice (some ⟨b,0,none⟩) xs.length cap] w (S1 (Lz.gd (xs.map (·.data.toList))) w):=by
 obtain⟨i0,hi,fI,ei,eM⟩:=info_parts ry;by_cases h4:4<xs.length
 ·have HN:Hid (Lz.gd (xs.map (·.data.toList))=none):=by
   show _=_;unfold Lz.gd;rw[List.length_map,if_pos h4]
  go_enter Tryz.func247,Tryz.ntmps247
  go_wp2
  go_ret2
  rw[HN.out];exact nj (d:=0) (Below.refl _ _) rfl (by omega)
 ·have HN:Hid (Lz.gd (xs.map (·.data.toList))=(Lz.fy xs.length (xs.map (·.data.toList))).map Lz.fH):=by
   show _=_;unfold Lz.gd;rw[List.length_map,if_neg h4]
  have HT:=Ih hT;have Hx:=Ih hx;clear hT hx;have hst:=World.ownsRow_nil w w.heap.size 5 1;go_enter Tryz.func247,Tryz.ntmps247
  go_wp2_with fail
  go_loopw [4,20] (fun a i wr=>∃(j:Nat) (bs:List Nat),j<=xs.length/\bs.length<=4*j/\(j=xs.length->1<=bs.length)/\i=.int .i64 j/\Hid (∀x∈bs,x<256)/\Hid (Lz.fy xs.length (xs.map (·.data.toList))=(Lz.fy xs.length ((xs.drop j).map (·.data.toList))).map (bs++·))/\wr.ownsRow w.heap.size 5 1 a bs.length (u8n bs)/\Below w.heap.size w wr) (fun _ i _=>xs.length-(intOf i).toNat)
  case atStart=>exact⟨0,[],Nat.zero_le _,by simp,by omega,rfl,Ih (by simp),by show _=_;simp,hst,Below.refl _ w⟩
  case round=>
   clear hst;obtain⟨j,bs,hj,VK,hbj,rfl,aV,hF,au,hb⟩:=hrel;have ju:=hb.size;have ew:=Ih au;by_cases nP:j<xs.length
   ·obtain⟨x,hx⟩:∃x,xs[j]? =some x:=⟨_,List.getElem?_eq_getElem nP⟩;have Cf:=(HT.out.below hb).cells _ _ hx;have T8:=Hx.out x (List.mem_of_getElem? hx)
    have Fg:xs.drop j=x::xs.drop (j+1):=by
     rw[List.drop_eq_getElem_cons nP];congr 1;have:=List.getElem?_eq_getElem nP;rw[hx]at this;exact(Option.some.inj this).symm
    have Cm:=Lz.wV xs.length x.data.toList ((xs.drop (j+1)).map (·.data.toList));have tJ:(xs.drop j).map (·.data.toList)=x.data.toList::(xs.drop (j+1)).map (·.data.toList):=by rw[Fg];rfl
    rw[<-tJ]at Cm
    have jl:((xs.drop (j+1)).map (·.data.toList)=[])↔j+1=xs.length:=by
     rw[List.map_eq_nil_iff,List.drop_eq_nil_iff];omega
    have cN:=fun W=>xR x (by omega) W;generalize Lz.sD x.data.toList=o at Cm cN;have Fl:=Ih jl;have oV:=Ih Cm;have CN:=Ih cN;clear hx Fg tJ Cm jl cN au
    go_wp2_with fail
    refine(CN.out _).mono ?_;rintro e w2 ⟨az,bA⟩;have aK:=ac hb az;cases o with
    | none=>
      obtain⟨v,rfl,tG⟩:=bA;have Fs:=Ih tG;obtain⟨p,u,rfl,_,_,_⟩:=tG
      have lV:Hid (Lz.gd (xs.map (·.data.toList))=none):=by
       show _=_;rw[HN.out,hF.out,oV.out];rfl
      clear oV hF
      go_wp2_with fail
      refine(sy (j:Int) (by omega) (by omega) _ (hE.below aK)).mono ?_;rintro e w3 ⟨d,rfl,hd,aO⟩;have hdz:d.size<=21:=by rw[<-aa,hd.out];exact(Lz.mw (n:=(j:Int)) (by omega) (by omega)).2.2
      have SM:¬(9223372036854775807<6+d.size):=by omega
      have jc:=ac aK aO
      go_wp2
      go_ret2
      rw[lV.out];exact nj (d:=1) jc (Fs.out.below aO) (by omega)
    | some v=>
    obtain⟨rfl,hv⟩:=bA;by_cases Fx:j+1=xs.length
    ·have hjb:((j:Int)==(xs.length:Int)-1)=true:=by simp;omega
     have VH:=Fl.out.2 Fx;obtain⟨many,Fh⟩:∃many:Nat,many=5-xs.length:=⟨_,rfl⟩;have Sa:1<=many/\many<=4:=by omega
     have gl:Hid (Lz.fy xs.length ((xs.drop j).map (·.data.toList))=if 0<v / 256^many then none else(Lz.fy xs.length ((xs.drop (j+1)).map (·.data.toList))).map fun t=>Lz.gN many v++t):=by
      show _=_;rw[oV.out,Fh];simp only[VH,if_true]
     have Hs8:=Ih (vH v many);clear oV
     go_upto_region 13 with fail
     rw[show Value.int .i64 (5-(xs.length:Int))=Value.int .i64 (many:Int) by congr 1;omega];have Sr:=Hs8.out;generalize hq:v / 256^many=q at Sr gl;have Hq:=Ih hq;clear Fh Hs8 hq;by_cases Cs:0<q
     ·have hqi:(0:Int)<(q:Int):=by omega
      have lV:Hid (Lz.gd (xs.map (·.data.toList))=none):=by
       show _=_;rw[HN.out,hF.out,gl.out,if_pos Cs];rfl
      go_wp2_with fail
      refine(sy (j:Int) (by omega) (by omega) _ (hE.below aK)).mono ?_;rintro e w3 ⟨d,rfl,hd,aO⟩;have hdz:d.size<=21:=by rw[<-aa,hd.out];exact(Lz.mw (n:=(j:Int)) (by omega) (by omega)).2.2
      have SM:¬(9223372036854775807<6+d.size):=by omega
      have jc:=ac aK aO
      go_wp2
      go_ret2
      rw[lV.out];exact nj (d:=0) jc rfl (by omega)
     ·have hqi:¬(0:Int)<(q:Int):=by omega
      have hF2:Hid (Lz.fy xs.length (xs.map (·.data.toList))=(Lz.fy xs.length ((xs.drop (j+1)).map (·.data.toList))).map ((bs++Lz.gN many v)++·)):=by
       show _=_;rw[hF.out,gl.out,if_neg Cs];cases Lz.fy xs.length ((xs.drop (j+1)).map (·.data.toList))<;>simp
      clear gl hF
      go_upto_region 15 with fail
      clear Sr hqi Cs Hq;have E8:=Lz.rO many v;have Hml:=Ih E8;clear E8;have fM:=Ih (bH ew.out az);have yo:=aK.size
      go_wp2_with fail
      go_loopw [4,10] (fun a c wr=>∃r:Nat,r<=many/\c=.int .i64 ((r:Int)-1)/\wr.ownsRow w.heap.size 5 1 a (bs++(Lz.gN many v).take (many-r)).length (u8n (bs++(Lz.gN many v).take (many-r)))/\Below w.heap.size w wr) (fun _ c _=>(intOf c+1).toNat)
      case atStart=>exact⟨many,Nat.le_refl _,rfl,by rw[Nat.sub_self,Lz.zF,List.append_nil];exact fM.out,aK⟩
      case round=>
       clear aK yo fM;obtain⟨r,hr,rfl,eK,aO⟩:=hrel;have OU:=aO.size;cases r with
       | succ k=>
         have zo:((k+1:Nat):Int)-1=k:=by omega
         rw[zo];have hk8:8*k<=64:=by omega
         have Sr:=vH v k;have gH:=Lz.AF many v k hr
         have vv:(bs++(Lz.gN many v).take (many-(k+1))).length<=20:=by
          rw[List.length_append,List.length_take];omega
         generalize yg:bs++(Lz.gN many v).take (many-(k+1))=bs2 at eK vv
         have o8:Hid (bs++(Lz.gN many v).take (many-k)=bs2++[v / 256^k%256]):=by
          show _=_;rw[gH,<-List.append_assoc,yg]
         have fi:=Ih eK;generalize v / 256^k=q at Sr o8;clear gH yg eK zo
         go_wp2_with (at_builtin;refine wpList_append_own _ rfl (.tmp 65) (.tmp 71) 75 rfl w.heap.size 5 i0 (.int .u8 0) 1 1 Tryz.underlying75 hi fI ei eM rfl (by decide) _ _ _ rfl (fi.out.alloc _) ⟨wr.heap.size,0,none⟩ 1 1 [.int .u8 ((q:Int)%256)] rfl rfl (bD _ _ _) (by simp[Value.oneCell']) (by unfold maxLen;omega) (by omega) (by simp;omega) ?_)
         intro v' w4 bf cp _;have dy:Below w.heap.size w w4:=Below.grown1 aO fi.out cp OU (Nat.le_refl _);rw[show((q:Int)%256)=((q%256:Nat):Int) by omega,xG]at bf;have gr:=Ih bf;clear bf cp
         go_wp2
         go_roundw
         case rel=>exact⟨k,by omega,rfl,by rw[o8.out,List.length_append];exact gr.out,dy⟩
         case measure=>simp[intOf]
       | zero=>
         have fi:Hid (wr.ownsRow w.heap.size 5 1 u4 (bs++Lz.gN many v).length (u8n (bs++Lz.gN many v))):=by
          have:=eK;rw[Nat.sub_zero,Lz.At]at this;exact this
         clear eK
         go_wp2
         go_roundw
         case rel=>exact⟨j+1,bs++Lz.gN many v,by omega,by rw[List.length_append,Hml.out];omega,by rw[List.length_append,Hml.out];omega,by go_num,Ih (fun x hx=>(List.mem_append.1 hx).elim (aV.out x) Lz.vI),hF2.out,fi.out,aO⟩
         case measure=>simp[intOf];omega
    ·have hjb:((j:Int)==(xs.length:Int)-1)=false:=by simp;omega
     have VH:¬((xs.drop (j+1)).map (·.data.toList)=[]):=fun h=>Fx (Fl.out.1 h);obtain⟨many,Fh⟩:∃many:Nat,many=1:=⟨_,rfl⟩;have Sa:1<=many/\many<=4:=by omega
     have gl:Hid (Lz.fy xs.length ((xs.drop j).map (·.data.toList))=if 0<v / 256^many then none else(Lz.fy xs.length ((xs.drop (j+1)).map (·.data.toList))).map fun t=>Lz.gN many v++t):=by
      show _=_;rw[oV.out,Fh];simp only[VH,if_false]
     have Hs8:=Ih (vH v many);clear oV
     go_upto_region 13 with fail
     rw[show Value.int .i64 1=Value.int .i64 (many:Int) by congr 1;omega];have Sr:=Hs8.out;generalize hq:v / 256^many=q at Sr gl;have Hq:=Ih hq;clear Fh Hs8 hq;by_cases Cs:0<q
     ·have hqi:(0:Int)<(q:Int):=by omega
      have lV:Hid (Lz.gd (xs.map (·.data.toList))=none):=by
       show _=_;rw[HN.out,hF.out,gl.out,if_pos Cs];rfl
      go_wp2_with fail
      refine(sy (j:Int) (by omega) (by omega) _ (hE.below aK)).mono ?_;rintro e w3 ⟨d,rfl,hd,aO⟩;have hdz:d.size<=21:=by rw[<-aa,hd.out];exact(Lz.mw (n:=(j:Int)) (by omega) (by omega)).2.2
      have SM:¬(9223372036854775807<6+d.size):=by omega
      have jc:=ac aK aO
      go_wp2
      go_ret2
      rw[lV.out];exact nj (d:=0) jc rfl (by omega)
     ·have hqi:¬(0:Int)<(q:Int):=by omega
      have hF2:Hid (Lz.fy xs.length (xs.map (·.data.toList))=(Lz.fy xs.length ((xs.drop (j+1)).map (·.data.toList))).map ((bs++Lz.gN many v)++·)):=by
       show _=_;rw[hF.out,gl.out,if_neg Cs];cases Lz.fy xs.length ((xs.drop (j+1)).map (·.data.toList))<;>simp
      clear gl hF
      go_upto_region 15 with fail
      clear Sr hqi Cs Hq;have E8:=Lz.rO many v;have Hml:=Ih E8;clear E8;have fM:=Ih (bH ew.out az);have yo:=aK.size
      go_wp2_with fail
      go_loopw [4,10] (fun a c wr=>∃r:Nat,r<=many/\c=.int .i64 ((r:Int)-1)/\wr.ownsRow w.heap.size 5 1 a (bs++(Lz.gN many v).take (many-r)).length (u8n (bs++(Lz.gN many v).take (many-r)))/\Below w.heap.size w wr) (fun _ c _=>(intOf c+1).toNat)
      case atStart=>exact⟨many,Nat.le_refl _,rfl,by rw[Nat.sub_self,Lz.zF,List.append_nil];exact fM.out,aK⟩
      case round=>
       clear aK yo fM;obtain⟨r,hr,rfl,eK,aO⟩:=hrel;have OU:=aO.size;cases r with
       | succ k=>
         have zo:((k+1:Nat):Int)-1=k:=by omega
         rw[zo];have hk8:8*k<=64:=by omega
         have Sr:=vH v k;have gH:=Lz.AF many v k hr
         have vv:(bs++(Lz.gN many v).take (many-(k+1))).length<=20:=by
          rw[List.length_append,List.length_take];omega
         generalize yg:bs++(Lz.gN many v).take (many-(k+1))=bs2 at eK vv
         have o8:Hid (bs++(Lz.gN many v).take (many-k)=bs2++[v / 256^k%256]):=by
          show _=_;rw[gH,<-List.append_assoc,yg]
         have fi:=Ih eK;generalize v / 256^k=q at Sr o8;clear gH yg eK zo
         go_wp2_with (at_builtin;refine wpList_append_own _ rfl (.tmp 65) (.tmp 71) 75 rfl w.heap.size 5 i0 (.int .u8 0) 1 1 Tryz.underlying75 hi fI ei eM rfl (by decide) _ _ _ rfl (fi.out.alloc _) ⟨wr.heap.size,0,none⟩ 1 1 [.int .u8 ((q:Int)%256)] rfl rfl (bD _ _ _) (by simp[Value.oneCell']) (by unfold maxLen;omega) (by omega) (by simp;omega) ?_)
         intro v' w4 bf cp _;have dy:Below w.heap.size w w4:=Below.grown1 aO fi.out cp OU (Nat.le_refl _);rw[show((q:Int)%256)=((q%256:Nat):Int) by omega,xG]at bf;have gr:=Ih bf;clear bf cp
         go_wp2
         go_roundw
         case rel=>exact⟨k,by omega,rfl,by rw[o8.out,List.length_append];exact gr.out,dy⟩
         case measure=>simp[intOf]
       | zero=>
         have fi:Hid (wr.ownsRow w.heap.size 5 1 u4 (bs++Lz.gN many v).length (u8n (bs++Lz.gN many v))):=by
          have:=eK;rw[Nat.sub_zero,Lz.At]at this;exact this
         clear eK
         go_wp2
         go_roundw
         case rel=>exact⟨j+1,bs++Lz.gN many v,by omega,by rw[List.length_append,Hml.out];omega,by rw[List.length_append,Hml.out];omega,by go_num,Ih (fun x hx=>(List.mem_append.1 hx).elim (aV.out x) Lz.vI),hF2.out,fi.out,aO⟩
         case measure=>simp[intOf];omega
   ·have Xv:j=xs.length:=by omega
    have HB:Hid (Lz.gd (xs.map (·.data.toList))=some (Lz.fH bs)):=by
     show _=_;rw[HN.out,hF.out,Xv,List.drop_length]
     simp[Lz.fy]
    have zr:=RB au aV.out
    have Tr:(bs.map UInt8.ofNat).map (·.toNat)=bs:=by
     rw[List.map_map]
     conv=>rhs;rw[<-List.map_id bs]
     apply List.map_congr_left
     intro x hx;have:=aV.out x hx
     simp;omega
    have cD:=FF u4 (bs.map UInt8.ofNat) wr (hE.below hb) zr (by rw[List.length_map];omega) (by rw[List.length_map];exact hbj Xv);rw[Tr]at cD;have CD:=Ih cD;have acP:¬j<xs.length:=nP;clear zr Tr cD au ew Xv hbj hF nP
    go_wp2_with fail
    refine(CD.out).mono ?_;rintro e w2 ⟨u,rfl,hu,az⟩
    go_wp2
    go_ret2
    rw[HB.out];exact⟨ac hb az,u,rfl,hu⟩
end Go.Proofs.YtecoeebjaleeiaaGreatDoor
