/-
  hosts.four: the IPv4 address that labels write.
-/
import Derived.Test.YtlcbhacofagedaaGreatDoorY13
import Derived.Deep.RegionHeld3
import Derived.Deep.AppendLies
import Derived.Deep.DrawnRows
set_option maxHeartbeats 2000000
set_option maxRecDepth 100000
namespace Go.Proofs.YtlcbhacofagedaaGreatDoor
open Go.RowKit
def SlU (w:World) (v:Value) (l:List Nat):Prop:=
 ∃a c,v=.slice a l.length c/\l.length<=1000000/\∀(j:Nat) (b:Nat),l[j]? =some b->∃B off,a=some ⟨B,off,none⟩/\B<w.heap.size/\w.cell? ⟨B,off+j,none⟩=some (.int .u16 (b:Int))
theorem S5 {n:Nat} (h:n<65536):(Lz.fd n).length<=4:=Lz.qt 3 n (by simpa using h)
theorem MX (v:Value) (l:List Nat) (w:World) (hE:de w) (hl:SlU w v l) (aN:∀n∈l,n<65536):Calls Tryz.prog 265 #[v] w (gl (Lz.bj l) w):=by
 obtain⟨i0,hi,ig,fs,fk⟩:=info_parts tC;obtain⟨a,c,rfl,hl9,aO⟩:=hl;have Hc:=Ih aO;have ZT:=Ih aN;clear aO aN;have h0:=World.ownsRow_nil w w.heap.size 9 1;go_enter Tryz.func265,Tryz.ntmps265
 go_wp2
 go_loopw [3,8] (fun a i wr=>∃(j:Nat) (xs:List ByteArray),j<=l.length/\i=.int .i64 j/\Hid (xs.map (·.data.toList)=(l.take j).map Lz.fd)/\wr.ownsRow w.heap.size 9 1 a j (xs.map Value.string)/\Below w.heap.size w wr) (fun _ i _=>l.length-(intOf i).toNat)
 case atStart=>exact⟨0,[],Nat.zero_le _,rfl,Ih rfl,h0,Below.refl _ w⟩
 case round=>
  clear h0;obtain⟨j,xs,hj,rfl,d7,aQ,hb⟩:=hrel;have dV:=hb.size;have bZ:=Ih aQ;by_cases aN:j<l.length
  ·have hg:l[j]? =some l[j]:=List.getElem?_eq_getElem aN;obtain⟨B,off,rfl,hBl,sV⟩:=Hc.out j l[j] hg;have aan:wr.cell? ⟨B,off+j,none⟩=some (.int .u16 l[j]):=by rw[hb.cell (p:=⟨B,off+j,none⟩) hBl];exact sV
   have gE:l.take (j+1)=l.take j++[l[j]]:=by rw[List.take_add_one,hg];rfl
   have hn:=ZT.out l[j] (List.getElem_mem aN);generalize l[j]=n at *;have WE:=Ih gE;clear gE hg sV aQ;have sX:(0:Int)<=(n:Int):=by omega
   have VK:IntKind.u64.wrap (n:Int)=(n:Int):=wrap64 (by omega) (by omega)
   go_wp2_with fail
   refine(wN n (by omega) _ (hE.below hb).db16).mono ?_;rintro e w1 ⟨t,rfl,ht,aC⟩;have eK:=Ih (dm bZ.out aC);have aU:Below w.heap.size w w1:=ac hb aC;have vM:=aU.size;have hst:xs.map Value.string++[Value.string t]=(xs++[t]).map Value.string:=by simp
   have fQ:=Ih hst
   have WR:Hid ((xs++[t]).map (·.data.toList)=(l.take (j+1)).map Lz.fd):=by
    show _=_;rw[WE.out,List.map_append,List.map_append,d7.out,List.map_singleton,List.map_singleton,ht.out,Lz.xS]
   clear hst WE
   go_wp2_with (at_builtin;refine wpList_append_own _ rfl (.tmp 12) (.tmp 16) 23 rfl w.heap.size 9 i0 (.string ⟨#[]⟩) 1 16 Tryz.underlying23 hi ig fs fk rfl (by decide) _ _ _ rfl (eK.out.alloc _) ⟨w1.heap.size,0,none⟩ 1 1 [.string t] rfl rfl (aY _ _ _) (by simp[Value.oneCell']) (by unfold maxLen;omega) (by omega) (by simp;omega) ?_)
   intro v' w3 aE aV _;have cq:=Below.grown1 aU eK.out aV vM (Nat.le_refl _);rw[fQ.out]at aE;have ep:=Ih aE;clear aE aV
   go_wp2
   go_roundw
   case rel=>exact⟨j+1,xs++[t],by omega,by go_num,WR.out,ep.out,cq⟩
   case measure=>simp[intOf];omega
  ·have jR:j=l.length:=by omega
   have vK:¬j<l.length:=aN;have HD:Hid (xs.map (·.data.toList)=l.map Lz.fd):=by show _=_;rw[d7.out,jR,List.take_length]
   have vR:xs.length=j:=by have:=aQ.1;simpa using this
   by_cases h1:j=0
   ·obtain⟨a0,c0,rfl⟩:∃a c,u3=.slice a 0 c:=by
     rw[h1]at aQ;rcases aQ.2 with⟨h,_⟩|⟨g,cap,ir,h,_⟩
     ·exact⟨_,_,h⟩
     ·exact⟨_,_,h⟩
    have HL:Hid (Lz.bj l=[]):=by
     show _=_;rw[List.length_eq_zero_iff.1 (show l.length=0 by omega)];rfl
    clear aQ bZ vR jR aN d7 h1
    go_wp2_with fail
    with_reducible refine(Ul a0 c0 ⟨#[58]⟩ _).mono ?_
    rintro e w1 ⟨u,rfl,hu,aC⟩
    go_wp2
    go_ret;exact⟨u,rfl,Ih (by rw[hu.out,HL.out]),ac hb aC⟩
   ·obtain⟨b,cap,rfl,nk,hT⟩:=jj aQ (by omega)
    have Y7:∀x,x∈xs->x.size<=4:=by
     intro x hx;have h1:x.data.toList∈l.map Lz.fd:=by rw[<-HD.out];exact List.mem_map_of_mem hx
     obtain⟨n,hn,hc⟩:=List.mem_map.1 h1;rw[<-aa,<-hc];exact S5 (ZT.out n hn)
    have HX:=Ih Y7;have HT:=Ih hT;have We:=Ih nk;have ZO:Hid (xs.length<=1000000):=by show _<=_;omega
    clear Y7 hT aQ bZ vR jR nk aN d7
    go_wp2_with fail
    with_reducible refine(NZ b cap xs ⟨#[58]⟩ _ HT.out We.out ZO.out 4 (by omega) HX.out (by decide)).mono ?_
    rintro e w1 ⟨u,rfl,hu,aC⟩
    go_wp2
    go_ret;refine⟨u,rfl,Ih ?_,ac hb aC⟩;rw[hu.out,HD.out];rfl
attribute [local go_sem ↓] Go.wp_at_zero Go.wp_at_succ
theorem ix:(Tryz.prog.info? 230).map (·.size)=some 8:=by kernel_rfl
theorem pj:Tryz.prog.arrayLen 230=8:=by simp[Program.arrayLen,Tryz.underlying230]
theorem Bb (B t:Nat) (ht:t<=8):∃a,(∀W,(Instr.sliceAt 230 (.pointer (some ⟨B,0,none⟩)) (some (.int .i64 (t:Int))) none none).run Tryz.prog W=.ok (.slice a (8-t) (8-t)) W)/\(t<8->a=some ⟨B,t,none⟩):=by
 by_cases h:t=8
 ·subst h;refine⟨some ⟨B,0,none⟩,fun W=>?_,fun h=>absurd h (by omega)⟩;rw[run_sliceAt_array_l W 230 ⟨B,0,none⟩ (by simp[Program.arrayLen,Program.elem,Tryz.underlying230]) .i64 ((8:Nat):Int) (by omega) (by rw[pj];omega)];go_simp
 ·refine⟨some ⟨B,t,none⟩,fun W=>?_,fun _=>rfl⟩;rw[run_sliceAt_array_l W 230 ⟨B,0,none⟩ (by simp[Program.arrayLen,Program.elem,Tryz.underlying230]) .i64 (t:Int) (by omega) (by rw[pj];omega)];go_simp;intro h;omega
theorem T4 (B t:Nat) (ht:t<=8) (W:World):(Instr.sliceAt 230 (.pointer (some ⟨B,0,none⟩)) none (some (.int .i64 (t:Int))) none).run Tryz.prog W=.ok (.slice (some ⟨B,0,none⟩) t 8) W:=by
 rw[run_sliceAt_array_h W 230 ⟨B,0,none⟩ (by simp[Program.arrayLen,Program.elem,Tryz.underlying230]) .i64 (t:Int) (by omega) (by rw[pj];omega)];go_simp
theorem mQ (l:List Nat) (h:∀n∈l,n<65536) (h8:l.length<=8):(Lz.bj l).length<=40:=by
 have hj:=Bq [58] 4 (l.map Lz.fd) (by
  intro x hx;obtain⟨n,hn,rfl⟩:=List.mem_map.1 hx;exact S5 (h n hn))
 rw[pU,List.length_map]at hj;unfold Lz.bj
 simp at hj;omega
theorem MR (l:List Nat) (h8:l.length=8) (aN:∀n∈l,n<65536) (w:World) (hE:de w):Calls Tryz.prog 237 #[Fv l] w (gl (Lz.ef l) w):=by
 have cR:=fun W=>Rc l h8 W;unfold Fv at cR⊢;obtain⟨cs,iV⟩:∃cs,cs=(l.map fun n:Nat=>Value.int .u16 (n:Int)).toArray:=⟨_,rfl⟩;rw[<-iV]at cR⊢;obtain⟨w1,iW⟩:∃w1,w1=w.alloc (.cells cs 230):=⟨_,rfl⟩;have hr:w1.heap[w.heap.size]? =some (.cells cs 230 (0,0)):=by rw[iW];exact heap_alloc_new w _
 have hc:∀j x,l[j]? =some x->w1.cell? ⟨w.heap.size,j,none⟩=some (.int .u16 (x:Nat)):=by
  intro j x hj;rw[iW,World.cell?_alloc_mark,iV]
  simp[hj]
 have Dk:w.heap.size<w1.heap.size:=by rw[iW];simp
 have aC:Below w.heap.size w w1:=by rw[iW];exact(Below.refl _ w).alloc (Nat.le_refl _) _
 have Z0:(Tryz.prog.info? 230).map (·.size)=some cs.size:=by rw[ix,iV];simp[h8]
 have F1:∀a n k (W:World),Below w1.heap.size w1 W->(0<n->a=some ⟨w.heap.size,k,none⟩)->k+n<=8->∀c,SlU W (.slice a n c) ((l.drop k).take n):=by
  intro a n k W hW ha hk c;have hln:((l.drop k).take n).length=n:=by simp;omega
  refine⟨a,c,by rw[hln],by rw[hln];omega,fun j b hj=>?_⟩;have sC:j<n:=by have:=(List.getElem?_eq_some_iff.1 hj).1;omega
  rw[List.getElem?_take,if_pos sC,List.getElem?_drop]at hj;exact⟨_,_,ha (by omega),Nat.lt_of_lt_of_le Dk hW.size,by rw[hW.cell (p:=⟨w.heap.size,k+j,none⟩) Dk];exact hc _ _ hj⟩
 have cT:∀a n k (W:World),Below w1.heap.size w1 W->(0<n->a=some ⟨w.heap.size,k,none⟩)->k+n<=8->∀c,Calls Tryz.prog 265 #[.slice a n c] W (gl (Lz.bj ((l.drop k).take n)) W):=
  fun a n k W hW ha hk c=>MX _ _ W (hE.below (ac aC hW)) (F1 a n k W hW ha hk c) (fun x hx=>aN x (List.mem_of_mem_drop (List.mem_of_mem_take hx)))
 obtain⟨f,hf⟩:∃f,f=(Lz.fT 0 l (0,0)).1:=⟨_,rfl⟩;obtain⟨t,ht⟩:∃t,t=(Lz.fT 0 l (0,0)).2:=⟨_,rfl⟩;have Gn:=Lz.GL l
 have PC:f<=8/\t<=8:=by
  rw[hf,ht];rcases Gn with h|⟨h1,h2,_⟩
  ·rw[h];simp
  ·omega
 have HT:Hid (Lz.ef l=if f=t then Lz.bj l else Lz.bj (l.take f)++[58,58]++Lz.bj (l.drop t)):=by show _=_;rw[hf,ht];rfl
 unfold X4 at cR;rw[<-hf,<-ht]at cR;have CR:=Ih cR;have CT:=Ih cT;have Hr:=Ih hr;have H8:=Ih h8;have ZT:=Ih aN;clear cR cT hr h8 F1 hc hf ht Gn aN iV;have Hcz:=Ih Z0;clear Z0;obtain⟨hf8,ht8⟩:=PC;go_enter Tryz.func237,Tryz.ntmps237
 go_upto_region 1 with fail
 rw[<-iW];clear iW
 go_wp2_with (refine wpList_load_row rfl 230 _ rfl w.heap.size rfl 230 _ (0,0) _ Hr.out Tryz.underlying230 rfl Hcz.out ?_)
 with_reducible refine(CR.out _).mono ?_
 rintro e w2 ⟨rfl,aU⟩;have fw:=ac aC aU;by_cases PC:f=t
 ·have abN:((f:Int)==(t:Int))=true:=by rw[PC];simp
  have kp:Hid (Lz.ef l=Lz.bj l):=by show _=_;rw[HT.out,if_pos PC]
  have ey:∀W,(Instr.sliceAt 230 (.pointer (some ⟨w.heap.size,0,none⟩)) none none none).run Tryz.prog W=.ok (.slice (some ⟨w.heap.size,0,none⟩) 8 8) W:=fun W=>by
   rw[run_sliceAt_array_all W 230 ⟨w.heap.size,0,none⟩ (by simp[Program.arrayLen,Program.elem,Tryz.underlying230])];rw[pj];go_simp
  have c8:=CT.out (some ⟨w.heap.size,0,none⟩) 8 0 w2 aU (fun _=>rfl) (by omega) 8;rw[List.drop_zero,List.take_of_length_le (by rw[H8.out];exact Nat.le_refl _),<-kp.out]at c8;have C8:=Ih c8;clear c8 CT CR PC HT kp
  go_wp2_with fail
  with_reducible refine C8.out.mono ?_
  rintro e w3 ⟨u,rfl,hu,cq⟩
  go_wp2
  go_ret;exact⟨u,rfl,hu,ac fw cq⟩
 ·have abN:((f:Int)==(t:Int))=false:=beq_eq_false_iff_ne.2 (by omega);have kp:Hid (Lz.ef l=Lz.bj (l.take f)++[58,58]++Lz.bj (l.drop t)):=by show _=_;rw[HT.out,if_neg PC]
  have hto:=T4 w.heap.size f hf8;obtain⟨a2,sD,vO⟩:=Bb w.heap.size t ht8;have c1:=fun W hW=>CT.out (some ⟨w.heap.size,0,none⟩) f 0 W hW (fun _=>rfl) (by omega) 8;have c2:=fun W hW=>CT.out a2 (8-t) t W hW (fun h=>vO (by omega)) (by omega) (8-t);rw[List.drop_zero]at c1;rw[List.take_of_length_le (l:=l.drop t) (by rw[List.length_drop,H8.out];exact Nat.le_refl _)]at c2;have fs:=mQ (l.take f) (fun n hn=>ZT.out n (List.mem_of_mem_take hn)) (by simp;omega);have fk:=mQ (l.drop t) (fun n hn=>ZT.out n (List.mem_of_mem_drop hn)) (by rw[List.length_drop,H8.out];omega);have C1:=Ih c1;have C2:=Ih c2;clear c1 c2 CT CR PC HT vO
  go_upto_region 4 with fail
  go_region_with (first |(go_at_call 265;(with_reducible refine(C1.out _ aU.drew).mono ?_);rintro e w3 ⟨u1,rfl,o8,cq⟩;have kq:u1.size<=40:=(by rw[<-aa,o8.out];exact fs);have Sm:¬(9223372036854775807<u1.size+2):=(by omega))|(go_at_call 265;(with_reducible refine(C2.out _ (ac aU.drew cq)).mono ?_);rintro e w4 ⟨u2,rfl,nK,ex⟩;have Xh:u2.size<=40:=(by rw[<-aa,nK.out];exact fk);have VR:¬(9223372036854775807<u1.size+2+u2.size):=(by omega)))
  go_wp2
  go_ret;refine⟨_,rfl,Ih ?_,ac (ac fw.drew cq) ex⟩;rw[ai,ai,o8.out,nK.out,kp.out]
end Go.Proofs.YtlcbhacofagedaaGreatDoor
namespace Lz
open Go
theorem xW (many v k:Nat) (h:k<many):(fX many v).take (many-k)=(fX many v).take (many-(k+1))++[v / 256^k%256]:=by
 have e:many-k=(many-(k+1))+1:=by omega
 rw[e,List.take_add_one];congr 1;unfold fX;rw[List.getElem?_map,List.getElem?_reverse (by simp;omega)];simp only[List.length_range];rw[List.getElem?_range (by omega)];simp only[Option.map_some,Option.toList_some];rw[show many-1-(many-(k+1))=k by omega]
theorem xq (many v:Nat):(fX many v).take 0=[]:=rfl
theorem yr (many v:Nat):(fX many v).take many=fX many v:=List.take_of_length_le (by rw[pY];exact Nat.le_refl _)
end Lz
namespace Go.Proofs.YtlcbhacofagedaaGreatDoor
open Go.RowKit
def Th (o:Option (List UInt8)) (w:World) (e:Ending) (w':World):Prop:=
 Below w.heap.size w w'/\match o with
  | some t=>∃u:ByteArray,e=.returned (.tuple #[.string u,.nilIface])/\Hid (u.data.toList=t)
  | none=>∃v d,d<=2/\e=.returned (.tuple #[.string ⟨#[]⟩,v])/\dE w' 71 d v
theorem ll {w wx:World} {s:ByteArray} {u:Value} {d:Nat} {t:TypeId} {fr:Nat×Nat} (hb:Below w.heap.size w wx) (hu:dE wx 71 d u) (hd:d<=1):
  Th none w (.returned (.tuple #[.string ⟨#[]⟩,.iface 225 (.pointer (some ⟨wx.heap.size,0,none⟩))])) (wx.alloc (.cells #[.string s,u] t fr)):=
 ⟨hb.alloc hb.size _,_,_,Nat.succ_le_succ hd,rfl,fM hu⟩
theorem tA (v k:Nat):(v:Int) / 2^(8*k)=((v / 256^k:Nat):Int):=by
 rw[show(2:Int)^(8*k)=((256^k:Nat):Int) by rw[Int.pow_mul];simp]
 simp
theorem Q7 {w:World} {base:Nat} {v:Value} {n:Nat} {l:List Nat} (h:w.ownsRow base 5 1 v n (u8n l)) (hl:∀x∈l,x<256):SlB w v (l.map UInt8.ofNat):=by
 have bv:l.length=n:=by have:=h.1;simpa [u8n]using this
 rcases h.2 with⟨rfl,h0⟩|⟨g,cap,ir,rfl,TF,hg,RH,hcm,iV,gE⟩
 ·obtain rfl:l=[]:=List.length_eq_zero_iff.1 (by omega);exact⟨none,0,rfl,by simp,fun j b hj=>by simp at hj⟩
 ·refine⟨some ⟨g,0,none⟩,cap,by rw[List.length_map,bv],by rw[List.length_map];unfold maxLen at hcm;omega,fun j b hj=>?_⟩;refine⟨g,0,rfl,(Array.getElem?_eq_some_iff.1 hg).1,?_⟩;rw[List.getElem?_map]at hj;cases hx:l[j]? with
  | none=>rw[hx]at hj;cases hj
  | some x=>
    rw[hx]at hj;have hb:UInt8.ofNat x=b:=Option.some.inj hj;have h2:(u8n l)[j]? =some (.int .u8 (x:Int)):=by simp[u8n,hx]
    rw[<-gE,List.getElem?_take]at h2;split at h2
    ·have hxm:=hl x (List.mem_of_getElem? hx);have aU:(b.toNat:Int)=x:=by rw[<-hb];simp;omega
     rw[aU,Nat.zero_add];simp only[World.cell?,hg];simpa using h2
    ·cases h2
theorem Lv (b cap:Nat) (xs:List ByteArray) (h1:1<=xs.length) (hn:xs.length<=1000000) (hx:∀x,x∈xs->x.size<=1048576) (w:World) (hE:de w) (hT:fq w b xs):
  Calls Tryz.prog 267 #[.slice (some ⟨b,0,none⟩) xs.length cap] w (Th (Lz.dJ (xs.map (·.data.toList))) w):=by
 obtain⟨i0,hi,ig,fs,fk⟩:=info_parts pz;by_cases h4:4<xs.length
 ·have HN:Hid (Lz.dJ (xs.map (·.data.toList))=none):=by
   show _=_;unfold Lz.dJ;rw[List.length_map,if_pos h4]
  go_enter Tryz.func267,Tryz.ntmps267
  go_wp2
  go_ret2
  rw[HN.out];exact ll (d:=0) (Below.refl _ _) rfl (by omega)
 ·have HN:Hid (Lz.dJ (xs.map (·.data.toList))=(Lz.dI xs.length (xs.map (·.data.toList))).map Lz.cu):=by
   show _=_;unfold Lz.dJ;rw[List.length_map,if_neg h4]
  have HT:=Ih hT;have Hx:=Ih hx;clear hT hx;have hst:=World.ownsRow_nil w w.heap.size 5 1;go_enter Tryz.func267,Tryz.ntmps267
  go_wp2_with fail
  go_loopw [4,20] (fun a i wr=>∃(j:Nat) (bs:List Nat),j<=xs.length/\bs.length<=4*j/\(j=xs.length->1<=bs.length)/\i=.int .i64 j/\Hid (∀x∈bs,x<256)/\Hid (Lz.dI xs.length (xs.map (·.data.toList))=(Lz.dI xs.length ((xs.drop j).map (·.data.toList))).map (bs++·))/\wr.ownsRow w.heap.size 5 1 a bs.length (u8n bs)/\Below w.heap.size w wr) (fun _ i _=>xs.length-(intOf i).toNat)
  case atStart=>exact⟨0,[],Nat.zero_le _,by simp,by omega,rfl,Ih (by simp),by show _=_;simp,hst,Below.refl _ w⟩
  case round=>
   clear hst;obtain⟨j,bs,hj,TU,hbj,rfl,aN,hF,aQ,hb⟩:=hrel;have dV:=hb.size;have bZ:=Ih aQ;by_cases jR:j<xs.length
   ·obtain⟨x,hx⟩:∃x,xs[j]? =some x:=⟨_,List.getElem?_eq_getElem jR⟩;have oY:=(HT.out.below hb).cells _ _ hx;have o7:=Hx.out x (List.mem_of_getElem? hx)
    have iS:xs.drop j=x::xs.drop (j+1):=by
     rw[List.drop_eq_getElem_cons jR];congr 1;have:=List.getElem?_eq_getElem jR;rw[hx]at this;exact(Option.some.inj this).symm
    have Ay:=Lz.uX xs.length x.data.toList ((xs.drop (j+1)).map (·.data.toList));have F4:(xs.drop j).map (·.data.toList)=x.data.toList::(xs.drop (j+1)).map (·.data.toList):=by rw[iS];rfl
    rw[<-F4]at Ay
    have fu:((xs.drop (j+1)).map (·.data.toList)=[])↔j+1=xs.length:=by
     rw[List.map_eq_nil_iff,List.drop_eq_nil_iff];omega
    have cN:=fun W=>ui x (by omega) W;generalize Lz.fv x.data.toList=o at Ay cN;have Dz:=Ih fu;have gU:=Ih Ay;have CN:=Ih cN;clear hx iS F4 Ay fu cN aQ
    go_wp2_with fail
    refine(CN.out _).mono ?_;rintro e w2 ⟨aU,bt⟩;have bi:=ac hb aU;cases o with
    | none=>
      obtain⟨v,rfl,rG⟩:=bt;have DI:=Ih rG;obtain⟨p,u,rfl,_,_,_⟩:=rG
      have iF:Hid (Lz.dJ (xs.map (·.data.toList))=none):=by
       show _=_;rw[HN.out,hF.out,gU.out];rfl
      clear gU hF
      go_wp2_with fail
      refine(lp (j:Int) (by omega) (by omega) _ (hE.below bi)).mono ?_;rintro e w3 ⟨d,rfl,hd,cq⟩;have hdz:d.size<=21:=by rw[<-aa,hd.out];exact(Lz.kr (n:=(j:Int)) (by omega) (by omega)).2.2
      have hds:¬(9223372036854775807<6+d.size):=by omega
      have iO:=ac bi cq
      go_wp2
      go_ret2
      rw[iF.out];exact ll (d:=1) iO (DI.out.below cq) (by omega)
    | some v=>
    obtain⟨rfl,hv⟩:=bt;by_cases sC:j+1=xs.length
    ·have Wr:((j:Int)==(xs.length:Int)-1)=true:=by simp;omega
     have KJ:=Dz.out.2 sC;obtain⟨many,Dq⟩:∃many:Nat,many=5-xs.length:=⟨_,rfl⟩;have abX:1<=many/\many<=4:=by omega
     have d6:Hid (Lz.dI xs.length ((xs.drop j).map (·.data.toList))=if 0<v / 256^many then none else(Lz.dI xs.length ((xs.drop (j+1)).map (·.data.toList))).map fun t=>Lz.fX many v++t):=by
      show _=_;rw[gU.out,Dq];simp only[KJ,if_true]
     have Hs8:=Ih (tA v many);clear gU
     go_upto_region 13 with fail
     rw[show Value.int .i64 (5-(xs.length:Int))=Value.int .i64 (many:Int) by congr 1;omega];have SN:=Hs8.out;generalize hq:v / 256^many=q at SN d6;have Hq:=Ih hq;clear Dq Hs8 hq;by_cases Ps:0<q
     ·have Ss:(0:Int)<(q:Int):=by omega
      have iF:Hid (Lz.dJ (xs.map (·.data.toList))=none):=by
       show _=_;rw[HN.out,hF.out,d6.out,if_pos Ps];rfl
      go_wp2_with fail
      refine(lp (j:Int) (by omega) (by omega) _ (hE.below bi)).mono ?_;rintro e w3 ⟨d,rfl,hd,cq⟩;have hdz:d.size<=21:=by rw[<-aa,hd.out];exact(Lz.kr (n:=(j:Int)) (by omega) (by omega)).2.2
      have hds:¬(9223372036854775807<6+d.size):=by omega
      have iO:=ac bi cq
      go_wp2
      go_ret2
      rw[iF.out];exact ll (d:=0) iO rfl (by omega)
     ·have Ss:¬(0:Int)<(q:Int):=by omega
      have Lm:Hid (Lz.dI xs.length (xs.map (·.data.toList))=(Lz.dI xs.length ((xs.drop (j+1)).map (·.data.toList))).map ((bs++Lz.fX many v)++·)):=by
       show _=_;rw[hF.out,d6.out,if_neg Ps];cases Lz.dI xs.length ((xs.drop (j+1)).map (·.data.toList))<;>simp
      clear d6 hF
      go_upto_region 15 with fail
      clear SN Ss Ps Hq;have RL:=Lz.pY many v;have YX:=Ih RL;clear RL;have ft:=Ih (dm bZ.out aU);have Ai:=bi.size
      go_wp2_with fail
      go_loopw [4,10] (fun a c wr=>∃r:Nat,r<=many/\c=.int .i64 ((r:Int)-1)/\wr.ownsRow w.heap.size 5 1 a (bs++(Lz.fX many v).take (many-r)).length (u8n (bs++(Lz.fX many v).take (many-r)))/\Below w.heap.size w wr) (fun _ c _=>(intOf c+1).toNat)
      case atStart=>exact⟨many,Nat.le_refl _,rfl,by rw[Nat.sub_self,Lz.xq,List.append_nil];exact ft.out,bi⟩
      case round=>
       clear bi Ai ft;obtain⟨r,hr,rfl,eu,cq⟩:=hrel;have F3:=cq.size;cases r with
       | succ k=>
         have kq:((k+1:Nat):Int)-1=k:=by omega
         rw[kq];have XI:8*k<=64:=by omega
         have SN:=tA v k;have gE:=Lz.xW many v k hr
         have DR:(bs++(Lz.fX many v).take (many-(k+1))).length<=20:=by
          rw[List.length_append,List.length_take];omega
         generalize Ds:bs++(Lz.fX many v).take (many-(k+1))=bs2 at eu DR
         have vN:Hid (bs++(Lz.fX many v).take (many-k)=bs2++[v / 256^k%256]):=by
          show _=_;rw[gE,<-List.append_assoc,Ds]
         have ep:=Ih eu;generalize v / 256^k=q at SN vN;clear gE Ds eu kq
         go_wp2_with (at_builtin;refine wpList_append_own _ rfl (.tmp 65) (.tmp 71) 63 rfl w.heap.size 5 i0 (.int .u8 0) 1 1 Tryz.underlying63 hi ig fs fk rfl (by decide) _ _ _ rfl (ep.out.alloc _) ⟨wr.heap.size,0,none⟩ 1 1 [.int .u8 ((q:Int)%256)] rfl rfl (aY _ _ _) (by simp[Value.oneCell']) (by unfold maxLen;omega) (by omega) (by simp;omega) ?_)
         intro v' w4 aE aV _;have ex:Below w.heap.size w w4:=Below.grown1 cq ep.out aV F3 (Nat.le_refl _);rw[show((q:Int)%256)=((q%256:Nat):Int) by omega,vw]at aE;have fR:=Ih aE;clear aE aV
         go_wp2
         go_roundw
         case rel=>exact⟨k,by omega,rfl,by rw[vN.out,List.length_append];exact fR.out,ex⟩
         case measure=>simp[intOf]
       | zero=>
         have ep:Hid (wr.ownsRow w.heap.size 5 1 u4 (bs++Lz.fX many v).length (u8n (bs++Lz.fX many v))):=by
          have:=eu;rw[Nat.sub_zero,Lz.yr]at this;exact this
         clear eu
         go_wp2
         go_roundw
         case rel=>exact⟨j+1,bs++Lz.fX many v,by omega,by rw[List.length_append,YX.out];omega,by rw[List.length_append,YX.out];omega,by go_num,Ih (fun x hx=>(List.mem_append.1 hx).elim (aN.out x) Lz.tu),Lm.out,ep.out,cq⟩
         case measure=>simp[intOf];omega
    ·have Wr:((j:Int)==(xs.length:Int)-1)=false:=by simp;omega
     have KJ:¬((xs.drop (j+1)).map (·.data.toList)=[]):=fun h=>sC (Dz.out.1 h);obtain⟨many,Dq⟩:∃many:Nat,many=1:=⟨_,rfl⟩;have abX:1<=many/\many<=4:=by omega
     have d6:Hid (Lz.dI xs.length ((xs.drop j).map (·.data.toList))=if 0<v / 256^many then none else(Lz.dI xs.length ((xs.drop (j+1)).map (·.data.toList))).map fun t=>Lz.fX many v++t):=by
      show _=_;rw[gU.out,Dq];simp only[KJ,if_false]
     have Hs8:=Ih (tA v many);clear gU
     go_upto_region 13 with fail
     rw[show Value.int .i64 1=Value.int .i64 (many:Int) by congr 1;omega];have SN:=Hs8.out;generalize hq:v / 256^many=q at SN d6;have Hq:=Ih hq;clear Dq Hs8 hq;by_cases Ps:0<q
     ·have Ss:(0:Int)<(q:Int):=by omega
      have iF:Hid (Lz.dJ (xs.map (·.data.toList))=none):=by
       show _=_;rw[HN.out,hF.out,d6.out,if_pos Ps];rfl
      go_wp2_with fail
      refine(lp (j:Int) (by omega) (by omega) _ (hE.below bi)).mono ?_;rintro e w3 ⟨d,rfl,hd,cq⟩;have hdz:d.size<=21:=by rw[<-aa,hd.out];exact(Lz.kr (n:=(j:Int)) (by omega) (by omega)).2.2
      have hds:¬(9223372036854775807<6+d.size):=by omega
      have iO:=ac bi cq
      go_wp2
      go_ret2
      rw[iF.out];exact ll (d:=0) iO rfl (by omega)
     ·have Ss:¬(0:Int)<(q:Int):=by omega
      have Lm:Hid (Lz.dI xs.length (xs.map (·.data.toList))=(Lz.dI xs.length ((xs.drop (j+1)).map (·.data.toList))).map ((bs++Lz.fX many v)++·)):=by
       show _=_;rw[hF.out,d6.out,if_neg Ps];cases Lz.dI xs.length ((xs.drop (j+1)).map (·.data.toList))<;>simp
      clear d6 hF
      go_upto_region 15 with fail
      clear SN Ss Ps Hq;have RL:=Lz.pY many v;have YX:=Ih RL;clear RL;have ft:=Ih (dm bZ.out aU);have Ai:=bi.size
      go_wp2_with fail
      go_loopw [4,10] (fun a c wr=>∃r:Nat,r<=many/\c=.int .i64 ((r:Int)-1)/\wr.ownsRow w.heap.size 5 1 a (bs++(Lz.fX many v).take (many-r)).length (u8n (bs++(Lz.fX many v).take (many-r)))/\Below w.heap.size w wr) (fun _ c _=>(intOf c+1).toNat)
      case atStart=>exact⟨many,Nat.le_refl _,rfl,by rw[Nat.sub_self,Lz.xq,List.append_nil];exact ft.out,bi⟩
      case round=>
       clear bi Ai ft;obtain⟨r,hr,rfl,eu,cq⟩:=hrel;have F3:=cq.size;cases r with
       | succ k=>
         have kq:((k+1:Nat):Int)-1=k:=by omega
         rw[kq];have XI:8*k<=64:=by omega
         have SN:=tA v k;have gE:=Lz.xW many v k hr
         have DR:(bs++(Lz.fX many v).take (many-(k+1))).length<=20:=by
          rw[List.length_append,List.length_take];omega
         generalize Ds:bs++(Lz.fX many v).take (many-(k+1))=bs2 at eu DR
         have vN:Hid (bs++(Lz.fX many v).take (many-k)=bs2++[v / 256^k%256]):=by
          show _=_;rw[gE,<-List.append_assoc,Ds]
         have ep:=Ih eu;generalize v / 256^k=q at SN vN;clear gE Ds eu kq
         go_wp2_with (at_builtin;refine wpList_append_own _ rfl (.tmp 65) (.tmp 71) 63 rfl w.heap.size 5 i0 (.int .u8 0) 1 1 Tryz.underlying63 hi ig fs fk rfl (by decide) _ _ _ rfl (ep.out.alloc _) ⟨wr.heap.size,0,none⟩ 1 1 [.int .u8 ((q:Int)%256)] rfl rfl (aY _ _ _) (by simp[Value.oneCell']) (by unfold maxLen;omega) (by omega) (by simp;omega) ?_)
         intro v' w4 aE aV _;have ex:Below w.heap.size w w4:=Below.grown1 cq ep.out aV F3 (Nat.le_refl _);rw[show((q:Int)%256)=((q%256:Nat):Int) by omega,vw]at aE;have fR:=Ih aE;clear aE aV
         go_wp2
         go_roundw
         case rel=>exact⟨k,by omega,rfl,by rw[vN.out,List.length_append];exact fR.out,ex⟩
         case measure=>simp[intOf]
       | zero=>
         have ep:Hid (wr.ownsRow w.heap.size 5 1 u4 (bs++Lz.fX many v).length (u8n (bs++Lz.fX many v))):=by
          have:=eu;rw[Nat.sub_zero,Lz.yr]at this;exact this
         clear eu
         go_wp2
         go_roundw
         case rel=>exact⟨j+1,bs++Lz.fX many v,by omega,by rw[List.length_append,YX.out];omega,by rw[List.length_append,YX.out];omega,by go_num,Ih (fun x hx=>(List.mem_append.1 hx).elim (aN.out x) Lz.tu),Lm.out,ep.out,cq⟩
         case measure=>simp[intOf];omega
   ·have Wl:j=xs.length:=by omega
    have HB:Hid (Lz.dJ (xs.map (·.data.toList))=some (Lz.cu bs)):=by
     show _=_;rw[HN.out,hF.out,Wl,List.drop_length]
     simp[Lz.dI]
    have F1:=Q7 aQ aN.out
    have hbn:(bs.map UInt8.ofNat).map (·.toNat)=bs:=by
     rw[List.map_map]
     conv=>rhs;rw[<-List.map_id bs]
     apply List.map_congr_left
     intro x hx;have:=aN.out x hx
     simp;omega
    have cD:=FD u4 (bs.map UInt8.ofNat) wr (hE.below hb) F1 (by rw[List.length_map];omega) (by rw[List.length_map];exact hbj Wl);rw[hbn]at cD;have CD:=Ih cD;have acH:¬j<xs.length:=jR;clear F1 hbn cD aQ bZ Wl hbj hF jR
    go_wp2_with fail
    refine(CD.out).mono ?_;rintro e w2 ⟨u,rfl,hu,aU⟩
    go_wp2
    go_ret2
    rw[HB.out];exact⟨ac hb aU,u,rfl,hu⟩
end Go.Proofs.YtlcbhacofagedaaGreatDoor
