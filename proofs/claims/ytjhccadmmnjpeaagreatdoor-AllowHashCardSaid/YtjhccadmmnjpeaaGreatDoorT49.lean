/-
  Numbers of eight bits that came in.
-/
import Derived.Test.YtjhccadmmnjpeaaGreatDoorT47
set_option maxHeartbeats 8000000
set_option maxRecDepth 100000
namespace Lz
open Go
def codeTo (l:Bs) (i:Nat):Bs:=l.take 8++coded ((l.take i).drop 8)++l.drop i
theorem codeTo_eight (l:Bs) (h:8<=l.length):codeTo l 8=l:=by
 unfold codeTo coded;rw[List.drop_eq_nil_iff.2 (by rw[List.length_take];omega)]
 simp
theorem codeTo_at {l:Bs} {i:Nat} (h8:8<=i) (hi:i<l.length):(codeTo l i)[i]? =l[i]? :=by
 unfold codeTo coded;have h1:(l.take 8++((l.take i).drop 8).map coded1).length=i:=by simp;omega
 rw[List.getElem?_append_right (by omega),h1,Nat.sub_self,List.getElem?_drop,Nat.add_zero]
theorem codeTo_set {l:Bs} {i:Nat} {c:UInt8} (h8:8<=i) (hc:l[i]? =some c):(codeTo l i).set i (coded1 c)=codeTo l (i+1):=by
 obtain⟨hi,rfl⟩:=List.getElem?_eq_some_iff.1 hc;unfold codeTo coded;have h1:(l.take 8++((l.take i).drop 8).map coded1).length=i:=by simp;omega
 rw[List.set_append_right _ _ (by omega),h1,Nat.sub_self,List.drop_eq_getElem_cons hi,List.set_cons_zero,List.take_succ_eq_append_getElem hi,List.drop_append_of_le_length (by rw[List.length_take];omega),List.map_append,List.append_assoc,List.append_assoc,List.append_assoc];rfl
theorem codeTo_same {l:Bs} {i:Nat} {c:UInt8} (h8:8<=i) (hc:l[i]? =some c) (hcc:coded1 c=c):codeTo l (i+1)=codeTo l i:=by
 rw[<-codeTo_set h8 hc,hcc]
 apply List.ext_getElem?
 intro j;rw[List.getElem?_set];split
 ·rename_i h;subst h;have h1:=codeTo_at h8 (List.getElem?_eq_some_iff.1 hc).1;split
  ·rw[h1,hc]
  ·rename_i h2;exact absurd (by have:=(List.getElem?_eq_some_iff.1 (h1.trans hc)).1;exact this) h2
 ·rfl
theorem codeTo_end (l:Bs):codeTo l l.length=l.take 8++coded (l.drop 8):=by
 unfold codeTo;rw[List.take_length,List.drop_length,List.append_nil]
theorem coded_V (dig:Int->Bs->Bs) (k:Nat) (t:Bs):(hashV dig k t).take 8++coded ((hashV dig k t).drop 8)=codeV dig k t:=by
 unfold hashV codeV coded
 have h:∀(a b:Bs),a.length=7->(39::(a++b++[39])).take 8=39::a/\(39::(a++b++[39])).drop 8=b++[39]:=by
  intro a b ha
  match a,ha with
  | [x0,x1,x2,x3,x4,x5,x6],_=>exact⟨rfl,rfl⟩
 have h7:(shaHead k).length=7:=by
  match k with
  | 0=>rfl
  | 1=>rfl
  | n+2=>rfl
 rw[(h _ _ h7).1,(h _ _ h7).2,List.map_append]
 simp[coded1]
theorem hashV_eight (dig:Int->Bs->Bs) (k:Nat) (t:Bs):8<=(hashV dig k t).length:=by
 unfold hashV
 have h7:(shaHead k).length=7:=by
  match k with
  | 0=>rfl
  | 1=>rfl
  | n+2=>rfl
 simp[h7]
end Lz
namespace Go.Proofs.YtjhccadmmnjpeaaGreatDoor
open Go.RowKit
attribute [local go_sem ↓] Go.wp_at_zero Go.wp_at_succ
theorem vals_row {w:World} {P:Nat} {xs:List ByteArray} {T:TypeId} {fr:Nat×Nat} (h:w.heap[P]? =some (.cells (xs.map Value.string).toArray T fr)) (hn:xs.length<=1000) (hz:∀x∈xs,x.size<=90000):ValsAt w (.slice (some ⟨P,0,none⟩) xs.length xs.length) (xs.map (fun x:ByteArray=>x.data.toList)):=by
 refine⟨⟨some ⟨P,0,none⟩,xs.length,xs,rfl,rfl,fun j y hj=>⟨P,0,rfl,row_lt h,?_⟩⟩,by rw[List.length_map];omega,fun x hx=>?_⟩
 ·rw[Nat.zero_add];exact rowAt h j (.string y) (by rw[List.getElem?_toArray,List.getElem?_map,hj];rfl)
 ·obtain⟨s,hs,rfl⟩:=List.mem_map.1 hx;rw[len_of_size];exact hz s hs
theorem allowHash_any {tab:List UInt32} {tab2:List UInt64} (t:ByteArray) (wh ki:Nat) (w:World) (hwh:wh<256) (hki:ki<256) (hE:EnvA tab tab2 w):Calls Tryz.prog 4 #[.string t,.int .u8 (wh:Int),.int .u8 (ki:Int)] w (RBool true w):=by
 have kH:Hid (∀V,Below w.heap.size w V->Calls Tryz.prog 9 #[] V fun e w'=>e=.returned (.bool true)/\Below w.heap.size w w'):=Ih (fun V hV=>(lets27_any tab tab2 V (hE.below hV)).mono fun e w' ⟨h1,h2⟩=>⟨h1,below_call hV h2⟩);by_cases hz:1000<t.size
 ·have hzI:(1000:Int)<(t.size:Int):=by omega
  clear hE;go_enter Tryz.func4,Tryz.ntmps4
  go_wp2_with fail
  refine(kH.out _ (Below.refl _ _)).mono ?_;rintro e w5 ⟨rfl,hb5⟩
  go_wp2_with fail
  go_ret;exact⟨rfl,hb5⟩
 have hzI:¬(1000:Int)<(t.size:Int):=by omega
 have cHa:=Ih (hash27_any tab tab2 t (by omega) wh hwh w hE);have HE:=Ih hE;obtain⟨m,hm⟩:∃m,m=wh%3:=⟨_,rfl⟩;rw[<-hm]at cHa;obtain⟨r5,hr5⟩:∃r,r=ki%5:=⟨_,rfl⟩;have fk:Int.tmod (ki:Int) 5=(r5:Int):=by rw[Int.tmod_eq_emod_of_nonneg (by omega)];omega
 have fk2:(ki:Int)%5=(r5:Int):=by omega
 obtain⟨k,hk⟩:∃k,k=1+r5:=⟨_,rfl⟩;have fk3:(1:Int)+(r5:Int)=(k:Int):=by omega
 have hk1:1<=k/\k<=5:=by omega
 clear hE hm hr5 hk;go_enter Tryz.func4,Tryz.ntmps4
 go_wp2_with fail
 refine cHa.out.mono ?_;rintro e w1 ⟨x,rfl,hx,hb1⟩;obtain⟨l,hl⟩:∃l,l=x.data.toList:=⟨_,rfl⟩;have hll:l.length=x.size:=by rw[hl];exact len_of_size x
 have hlv:l=Lz.hashV (digA tab tab2) m t.data.toList:=by rw[hl];exact hx.out
 have hl8:8<=x.size:=by rw[<-hll,hlv];exact Lz.hashV_eight _ _ _
 have hl1000:x.size<=1000:=by rw[<-hll,hlv];exact hashV_len _ _ _ _
 have kb:=run_bytes_of_string (P:=Tryz.prog) w1 9 30 5 x Tryz.underlying9 Tryz.underlying30 Tryz.underlying5;have hmade:=byteRow_made w1 x (grownCap w1 x.size 0 5) 5;obtain⟨cap,hcap⟩:∃cap,cap=grownCap w1 x.size 0 5:=⟨_,rfl⟩;rw[<-hcap]at kb hmade;obtain⟨W2,hW2⟩:∃W,W=w1.drew.alloc (.cells (bytesRow x cap) 5 ((bytesRow x cap).size,(bytesRow x cap).size+1)):=⟨_,rfl⟩;rw[<-hW2]at kb;have hrow2:ByteRow W2 w1.heap.size l:=by rw[hW2,hl];exact hmade
 have hbW2:Below w1.heap.size w1 W2:=by rw[hW2];exact(Below.refl _ w1).drew.alloc (Nat.le_refl _) _
 have hW2s:W2.heap.size=w1.heap.size+1:=by rw[hW2];simp
 have hback:=run_convert_bytes_back (P:=Tryz.prog) W2 30 9 5 ⟨w1.heap.size,0,none⟩ cap l Tryz.underlying30 Tryz.underlying5 Tryz.underlying9 (fun j hj=>by rw[addr_add];exact(hrow2 j _ (List.getElem?_eq_getElem hj)).1);rw[hll]at hback;have hlx:(⟨l.toArray⟩:ByteArray)=x:=by rw[hl]
 rw[hlx]at hback;have Hlv:=Ih hlv;have Hll:=Ih hll;have HXL:=Ih hl.symm;clear hcap hW2 hmade hl hlv hll hlx hx cHa
 go_upto_region 6 with fail
 obtain⟨W3,hW3⟩:∃W,W=W2.alloc (.cells #[.string x] 9):=⟨_,rfl⟩;have hP3:W3.heap[w1.heap.size+1]? =some (.cells #[.string x] 9 (0,0)):=by rw[hW3,<-hW2s];exact heap_new _ _
 have hrow3:ByteRow W3 w1.heap.size (Lz.codeTo l 8):=by
  rw[Lz.codeTo_eight l (by rw[Hll.out];exact hl8),hW3];intro j c hj;obtain⟨h1,h2⟩:=hrow2 j c hj;have hlt:=World.block_lt_of_cell? _ _ h1;exact⟨by rw[World.cell?_alloc_lt _ _ _ hlt];exact h1,by rw[World.frozen?_alloc_past _ _ _ hlt];exact h2⟩
 have hb3:Below w1.heap.size w1 W3:=by rw[hW3];exact hbW2.alloc (by omega) _
 rw[<-hW3];obtain⟨R,hR⟩:∃R,R=w1.heap.size:=⟨_,rfl⟩;rw[<-hR]at hP3 hrow3 hb3⊢;have hRw:w.heap.size<=R:=by rw[hR];exact hb1.size
 clear hW3 hrow2 hbW2 hW2s hback kb hR
 go_wp2_with fail
 go_loopw [10] (fun k wr=>∃i:Nat,k=.int .i64 i/\8<=i/\i<=x.size/\ByteRow wr R (Lz.codeTo l i)/\wr.heap[R+1]? =some (.cells #[.string x] 9 (0,0))/\Below R w1 wr) (fun k _=>x.size-(intOf k).toNat)
 case atStart=>exact⟨8,rfl,by omega,hl8,hrow3,hP3,hb3⟩
 case round=>
  obtain⟨i,rfl,h8,hi,hrow,hP,hb⟩:=hrel;clear hrow3 hP3 hb3;by_cases hlt:i<x.size
  ·have hltI:(i:Int)<(x.size:Int):=by omega
   have hi0:(0:Int)<=(i:Int):=by omega
   have hil:i<l.length:=by rw[Hll.out];exact hlt
   obtain⟨c,hc⟩:∃c,l[i]? =some c:=⟨_,List.getElem?_eq_getElem hil⟩;obtain⟨hcell,hfr⟩:=hrow i c (by rw[Lz.codeTo_at h8 hil];exact hc);have hset:=hrow.set i (Lz.coded1 c);rw[Lz.codeTo_set h8 hc]at hset;have hPs:∀v,(wr.setCell ⟨R,i,none⟩ v).heap[R+1]? =some (.cells #[.string x] 9 (0,0)):=fun v=>(heap_setCell_other _ _ _ _ _ (by omega)).trans hP;have hbs:∀v,Below R w1 (wr.setCell ⟨R,i,none⟩ v):=fun v=>hb.setCell (p:=⟨R,i,none⟩) (Nat.le_refl _) v;have Hset:=Ih hset;clear hset;by_cases h43:c=43
   ·subst h43;clear hc hrow hP
    go_wp2_with fail
    go_roundw
    case rel=>exact⟨i+1,by go_num,by omega,by omega,Hset.out,hPs _,hbs _⟩
    case measure=>simp[intOf];omega
   ·by_cases h47:c=47
    ·subst h47;clear hc hrow hP
     go_wp2_with fail
     go_roundw
     case rel=>exact⟨i+1,by go_num,by omega,by omega,Hset.out,hPs _,hbs _⟩
     case measure=>simp[intOf];omega
    ·have e43:((c.toNat:Int)==43)=false:=by
      rw[beq_eq_false_iff_ne];intro h;exact h43 (UInt8.toNat_inj.1 (by show c.toNat=43;omega))
     have e47:((c.toNat:Int)==47)=false:=by
      rw[beq_eq_false_iff_ne];intro h;exact h47 (UInt8.toNat_inj.1 (by show c.toNat=47;omega))
     have HS:Hid (ByteRow wr R (Lz.codeTo l (i+1))):=by
      show ByteRow _ _ _;rw[Lz.codeTo_same h8 hc (by unfold Lz.coded1;rw[if_neg h43,if_neg h47])];exact hrow
     clear hc hrow Hset hPs hbs h43 h47
     go_wp2_with fail
     go_roundw
     case rel=>exact⟨i+1,by go_num,by omega,by omega,HS.out,hP,hb⟩
     case measure=>simp[intOf];omega
  ·obtain rfl:i=x.size:=by omega
   have hltI:¬((x.size:Int)<(x.size:Int)):=by omega
   have hcl:(Lz.codeTo l x.size).length=x.size:=by
    rw[<-Hll.out,Lz.codeTo_end,List.length_append];unfold Lz.coded;rw[List.length_map,List.length_take,List.length_drop];rw[Hll.out];omega
   have hcv:Lz.codeTo l x.size=Lz.codeV (digA tab tab2) m t.data.toList:=by rw[<-Hll.out,Lz.codeTo_end,Hlv.out,Lz.coded_V]
   have hback:∀V,ByteRow V R (Lz.codeTo l x.size)->(convert 30 9 (.slice (some ⟨R,0,none⟩) x.size cap)).run Tryz.prog V=.ok (.string ⟨(Lz.codeTo l x.size).toArray⟩) V:=fun V hV=>by
    have:=run_convert_bytes_back (P:=Tryz.prog) V 30 9 5 ⟨R,0,none⟩ cap (Lz.codeTo l x.size) Tryz.underlying30 Tryz.underlying5 Tryz.underlying9 (fun j hj=>by rw[addr_add];exact(hV j _ (List.getElem?_eq_getElem hj)).1)
    rwa [hcl]at this
   obtain⟨y,hy⟩:∃y:ByteArray,y=⟨(Lz.codeTo l x.size).toArray⟩:=⟨_,rfl⟩;have hyl:y.data.toList=Lz.codeV (digA tab tab2) m t.data.toList:=by rw[hy,hcv]
   have hyz:y.size<=1000:=by rw[<-len_of_size,hy];show(Lz.codeTo l x.size).length<=_;omega
   rw[<-hy]at hback;have hR0:=hback wr hrow;obtain⟨W4,hW4⟩:∃W,W=wr.alloc (.cells #[.string y] 9):=⟨_,rfl⟩;have hb4:Below wr.heap.size wr W4:=by rw[hW4];exact(Below.refl _ wr).alloc (Nat.le_refl _) _
   have hrow4:ByteRow W4 R (Lz.codeTo l x.size):=by
    intro j c hj;obtain⟨h1,h2⟩:=hrow j c hj;have hlt:=World.block_lt_of_cell? _ _ h1;rw[hW4];exact⟨by rw[World.cell?_alloc_lt _ _ _ hlt];exact h1,by rw[World.frozen?_alloc_past _ _ _ hlt];exact h2⟩
   have hR4:=hback W4 hrow4
   have hv4:ValsAt W4 (.slice (some ⟨wr.heap.size,0,none⟩) 1 1) [Lz.codeV (digA tab tab2) m t.data.toList]:=by
    rw[hW4,<-hyl];exact vals_lit wr [y] (by simp) (by intro z hz;simp at hz;rw[hz];omega)
   obtain⟨W5,hW5⟩:∃W,W=W4.alloc (.cells #[.string y,.string hashesQ] 9):=⟨_,rfl⟩;have hb5:Below W4.heap.size W4 W5:=by rw[hW5];exact(Below.refl _ W4).alloc (Nat.le_refl _) _
   have hv5:ValsAt W5 (.slice (some ⟨W4.heap.size,0,none⟩) 2 2) [Lz.codeV (digA tab tab2) m t.data.toList,Lz.hashesV]:=by
    rw[hW5,<-hyl];exact vals_lit W4 [y,hashesQ] (by simp) (by intro z hz;simp at hz;rcases hz with rfl|rfl;omega;decide)
   have hvp:ValsAt W5 (.slice (some ⟨R+1,0,none⟩) 1 1) [Lz.hashV (digA tab tab2) m t.data.toList]:=by
    have h:=((vals_row (xs:=[x]) hP (by simp) (by intro z hz;simp at hz;rw[hz];omega)).below hb4).below hb5;rw[show[x].map (fun x:ByteArray=>x.data.toList)=[Lz.hashV (digA tab tab2) m t.data.toList] by rw[<-Hlv.out];simp;exact HXL.out]at h;exact h
   have e4:W4.heap.size=wr.heap.size+1:=by rw[hW4];simp
   rw[e4]at hv5;have hvc:=hv4.below hb5;have hd:∀b t,digA tab tab2 b t≠[]:=fun b t=>(digA_len tab tab2 b t).2;have hRle:R<=wr.heap.size:=Nat.le_of_lt (row_lt (show wr.heap[R+1]? =_ from hP) |> Nat.lt_of_succ_lt);have hb15:Below R w1 W5:=hb.trans ((hb4.mono hRle).trans (hb5.mono (by omega)));have hbw5:Below w.heap.size w W5:=hb1.trans (hb15.mono hRw);have HE5:=Ih (fun V (hV:Below W5.heap.size W5 V)=>HE.out.below (below_call hbw5 hV));obtain⟨e0,he0⟩:∃e0,e0=Lz.elemP (k:Int):=⟨_,rfl⟩;have h1I:(1:Int)<=(k:Int):=by omega
   have h5I:(k:Int)<=5:=by omega
   have kp:Hid (∀V,Below W5.heap.size W5 V->Calls Tryz.prog 16 #[.slice (some ⟨R+1,0,none⟩) 1 1,.string t] V (RBool true V)):=Ih (fun V hV=>Lz.hash_own hd m t.data.toList▸HashA_any tab tab2 _ _ t (by omega) V (HE5.out V hV) (hvp.below hV));have kc:Hid (∀V,Below W5.heap.size W5 V->Calls Tryz.prog 16 #[.slice (some ⟨wr.heap.size,0,none⟩) 1 1,.string t] V (RBool true V)):=Ih (fun V hV=>Lz.hash_code hd m t.data.toList []▸HashA_any tab tab2 _ _ t (by omega) V (HE5.out V hV) (hvc.below hV))
   have k1:Hid (∀V,Below W5.heap.size W5 V->Calls Tryz.prog 10 #[.int .i64 (k:Int),.slice (some ⟨R+1,0,none⟩) 1 1,.string ⟨#[]⟩,.string t] V (RBool e0 V)):=Ih (fun V hV=>by
    have h:=InlineA_any tab tab2 (k:Int) _ _ ⟨#[]⟩ t (by omega) V (HE5.out V hV) (hvp.below hV);rw[show(⟨#[]⟩:ByteArray).data.toList=[]from rfl,Lz.inline_hash hd m t.data.toList (k:Int) h1I h5I,<-he0]at h;exact h)
   have k2:Hid (∀V,Below W5.heap.size W5 V->Calls Tryz.prog 10 #[.int .i64 (k:Int),.slice (some ⟨wr.heap.size,0,none⟩) 1 1,.string ⟨#[]⟩,.string t] V (RBool e0 V)):=Ih (fun V hV=>by
    have h:=InlineA_any tab tab2 (k:Int) _ _ ⟨#[]⟩ t (by omega) V (HE5.out V hV) (hvc.below hV);rw[show(⟨#[]⟩:ByteArray).data.toList=[]from rfl,Lz.inline_code hd m t.data.toList (k:Int) h1I h5I,<-he0]at h;exact h)
   have k3:Hid (∀V,Below W5.heap.size W5 V->Calls Tryz.prog 10 #[.int .i64 (k:Int),.slice (some ⟨wr.heap.size+1,0,none⟩) 2 2,.string ⟨#[]⟩,.string t] V (RBool true V)):=Ih (fun V hV=>by
    have h:=InlineA_any tab tab2 (k:Int) _ _ ⟨#[]⟩ t (by omega) V (HE5.out V hV) (hv5.below hV);rw[show(⟨#[]⟩:ByteArray).data.toList=[]from rfl,Lz.inline_more hd m t.data.toList (k:Int) h1I h5I]at h;exact h)
   have HE0:Hid (e0=((k:Int)==1||(k:Int)==4)):=Ih he0;rw[hW4]at hR4;have HW45:=Ih (And.intro hW4 hW5);have kH5:Hid (∀V,Below W5.heap.size W5 V->Calls Tryz.prog 9 #[] V fun e w'=>e=.returned (.bool true)/\Below w.heap.size w w'):=Ih (fun V hV=>kH.out V (below_call hbw5 hV));clear hW4 hW5 hv4 hv5 hvc hvp hb4 hb5 hb15 hbw5 e4 hd he0 hcl hcv hback hy hyl hrow hrow4 hP hb kH HE5
   go_upto_region 15 with fail
   change Code.wp _ _ _ _ ((wr.alloc (.cells #[.string y] 9)).alloc (.cells #[.string y,.string hashesQ] 9));rw[<-HW45.out.1,<-HW45.out.2];clear hR0 hR4
   go_cut [13] (fun s wx=>s=.bool e0/\W5=wx)
   case first=>
    obtain rfl|rfl|rfl|rfl|rfl:k=1\/k=2\/k=3\/k=4\/k=5:=by omega
    all_goals
     go_wp2_with fail
     go_meet;exact⟨by rw[HE0.out];rfl,rfl⟩
   case rest=>
    obtain⟨rfl,rfl⟩:=hcut
    go_wp2_with fail
    refine(kp.out _ (Below.refl _ _)).mono ?_;rintro e v1 ⟨rfl,hn1⟩
    go_wp2_with fail
    refine(kc.out _ hn1).mono ?_;rintro e v2 ⟨rfl,hn2⟩;replace hn2:=below_call hn1 hn2
    go_wp2_with fail
    refine(k1.out _ hn2).mono ?_;rintro e v3 ⟨rfl,hn3⟩;replace hn3:=below_call hn2 hn3;cases e0
    all_goals
     go_wp2_with fail
     refine(k2.out _ hn3).mono ?_;rintro e v4 ⟨rfl,hn4⟩;replace hn4:=below_call hn3 hn4
     go_wp2_with fail
     refine(k3.out _ hn4).mono ?_;rintro e v5 ⟨rfl,hn5⟩;replace hn5:=below_call hn4 hn5
     go_wp2_with fail
     refine(kH5.out _ hn5).mono ?_;rintro e v6 ⟨rfl,hn6⟩
     go_wp2_with fail
     go_ret;exact⟨rfl,hn6⟩
theorem nat_of_wf' {k:IntKind} {n:Int} (h:(Lit.int k n).wf=true) (hm:k.min=0):∃m:Nat,n=(m:Int)/\(m:Int)<=k.max:=by
 simp only[Lit.wf,Bool.and_eq_true,decide_eq_true_eq]at h;rw[hm]at h;exact⟨n.toNat,by omega,by omega⟩
theorem nat8_of_wf' {n:Int} (h:(Lit.int .u8 n).wf=true):∃m:Nat,n=(m:Int)/\m<256:=by
 obtain⟨m,rfl,h1⟩:=nat_of_wf' h (by decide);rw[show IntKind.u8.max=255 by decide]at h1;exact⟨m,rfl,by omega⟩
end Go.Proofs.YtjhccadmmnjpeaaGreatDoor
