/-
  hosts.bytes: four decimal numbers.
-/
import Derived.Test.YtjhccadmmnjpeaaGreatDoorT12
import Derived.Test.YtjhccadmmnjpeaaGreatDoorT08
set_option maxHeartbeats 1000000
set_option maxRecDepth 100000
namespace Lz
open Go
theorem splitC_ne (c:UInt8) (l:Bs):splitC c l≠[]:=by
 cases l with
 | nil=>simp[splitC]
 | cons b r=>
   rw[splitC];split
   ·simp
   ·split<;>simp
theorem dropWhile_nil {p:UInt8->Bool}:∀{l:Bs},l.dropWhile p=[]↔l.all p=true
 | []=>by simp
 | a::r=>by
   rw[List.dropWhile_cons,List.all_cons];cases h:p a
   ·simp
   ·simpa using dropWhile_nil (p:=p) (l:=r)
theorem trimS_nil {l cs:Bs}:Lib.trimS l cs=[]↔l.all (cs.contains ·)=true:=by
 unfold Lib.trimS Lib.trimLeftS Lib.trimRightS;rw[dropWhile_nil];constructor
 ·intro h;rw[List.all_reverse]at h
  have h2:∀r:Bs,(r.dropWhile (cs.contains ·)).all (cs.contains ·)=true->r.all (cs.contains ·)=true:=by
   intro r
   induction r with
   | nil=>simp
   | cons a r ih=>
     rw[List.dropWhile_cons,List.all_cons];cases h:cs.contains a
     ·simp only[Bool.false_eq_true,if_false];rw[List.all_cons,h];simp
     ·simpa using ih
  have:=h2 l.reverse h
  rwa [List.all_reverse]at this
 ·intro h;rw[List.all_reverse];have h2:∀r:Bs,r.all (cs.contains ·)=true->(r.dropWhile (cs.contains ·)).all (cs.contains ·)=true:=fun r hr=>by rw[dropWhile_nil.2 hr];rfl
  exact h2 _ (by rw[List.all_reverse];exact h)
theorem digits_contains (c:UInt8):([48,49,50,51,52,53,54,55,56,57]:Bs).contains c=isDigit c:=by revert c;exact byte_all (by decide +kernel)
end Lz
namespace Go.Proofs.YtjhccadmmnjpeaaGreatDoor
open Go.RowKit
structure TextsAt (w:World) (b:Nat) (xs:List ByteArray):Prop where
 lt:b<w.heap.size
 cells:∀j x,xs[j]? =some x->w.cell? ⟨b,j,none⟩=some (.string x)
theorem TextsAt.below {w w':World} {b:Nat} {xs:List ByteArray} (h:TextsAt w b xs) (hb:Below w.heap.size w w'):TextsAt w' b xs:=
 ⟨Nat.lt_of_lt_of_le h.lt hb.size,fun j x hj=>by rw[hb.cell (p:=⟨b,j,none⟩) h.lt];exact h.cells j x hj⟩
theorem TextsAt.take {w:World} {b:Nat} {xs:List ByteArray} (h:TextsAt w b xs) (n:Nat):TextsAt w b (xs.take n):=
 ⟨h.lt,fun j x hj=>h.cells j x (by rw[List.getElem?_take]at hj;split at hj<;>simp_all)⟩
def RLabs (ls:List (List UInt8)) (m:Nat) (w:World) (e:Ending) (w':World):Prop:=
 ∃(xs:List ByteArray) (b cap:Nat),e=.returned (.slice (some ⟨b,0,none⟩) xs.length cap)/\xs.length<=cap/\1<=xs.length/\xs.length<=m+1/\Hid (xs.map (·.data.toList)=ls)/\(∀x,x∈xs->x.size<=m)/\TextsAt w' b xs/\Below w.heap.size w w'
theorem labels_any (s:ByteArray) (hs:s.size<=1048576) (w:World) (hE:EnvH w):Calls Tryz.prog 281 #[.string s] w (RLabs (Lz.labelsP s.data.toList) s.size w):=by
 have cS:=Ih (Split_h s 46 (by omega) w hE);go_enter Tryz.func281,Tryz.ntmps281
 go_wp2_with fail
 refine(cS.out).mono ?_;rintro e w1 ⟨xs,rfl,hxs,hw1⟩;have hsp:Hid (Lz.splitC 46 s.data.toList=xs.map (·.data.toList)):=Ih hxs.out.symm
 have hlen:xs.length<=s.size+1:=by
  have h:=Lz.splitC_len 46 s.data.toList;rw[<-hxs.out,List.length_map,len_of_size]at h;omega
 have hpos:1<=xs.length:=by
  have:=Lz.splitC_ne 46 s.data.toList;rw[<-hxs.out]at this;cases xs with
  | nil=>simp at this
  | cons _ _=>simp
 have hsz:∀x,x∈xs->x.size<=s.size:=fun x hx=>piece_size hxs.out hx;have hb1:Below w.heap.size w w1:=by rw[hw1.out];exact(Below.refl _ w).alloc (Nat.le_refl _) _
 have hT:TextsAt w1 w.heap.size xs:=by
  refine⟨by rw[hw1.out];simp,fun j x hj=>?_⟩;rw[hw1.out];have:=World.cell?_alloc_mark w (xs.map Value.string).toArray 9 (0,0) j;rw[this]
  simp[hj]
 obtain⟨x,hx⟩:∃x,xs[xs.length-1]? =some x:=⟨_,List.getElem?_eq_getElem (by omega)⟩;have hcx:=hT.cells _ _ hx;have hlast:xs.getLast? =some x:=by rw[List.getLast?_eq_getElem?];exact hx
 have HT:=Ih hT;have Hsz:=Ih hsz;have Hl:=Ih hlast;clear cS hw1 hxs hT hsz hx hlast;obtain⟨n,hn⟩:∃n,n=xs.length-1:=⟨_,rfl⟩;rw[<-hn]at hcx;have hn1:(xs.length:Int)-1=n:=by omega
 have hnl:n<xs.length:=by omega
 have hn2:(n:Int)<xs.length:=by omega
 have hn3:(n:Int)<=xs.length:=by omega
 have hn0:(0:Int)<=n:=by omega
 have Hn:=Ih hn;clear hn;by_cases h1:1<xs.length
 ·have hn4:(0:Int)<n:=by omega
  by_cases hz:x.size=0
  ·have he:=isEmpty_of_size hz
   have HD:Hid ((xs.take n).map (·.data.toList)=Lz.labelsP s.data.toList):=by
    show _=_;unfold Lz.labelsP
    rw[hsp.out,if_pos ⟨by simpa using h1,by
     rw[List.getLast?_map,Hl.out];show some x.data.toList=some [];rw[List.length_eq_zero_iff.1 (show x.data.toList.length=0 by rw[len_of_size];exact hz)]⟩]
    rw[List.dropLast_eq_take,List.length_map,List.map_take,Hn.out]
   clear hsp
   go_wp2
   go_ret;refine⟨xs.take n,w.heap.size,xs.length,?_,by simp;omega,by simp;omega,by simp;omega,HD,fun y hy=>Hsz.out y (List.mem_of_mem_take hy),HT.out.take n,hb1⟩;rw[List.length_take,Nat.min_eq_left (by omega)];rfl
  ·have he:=isEmpty_of_pos (s:=x) (by omega)
   have HD:Hid (xs.map (·.data.toList)=Lz.labelsP s.data.toList):=by
    show _=_;unfold Lz.labelsP;rw[hsp.out,if_neg];rintro⟨_,h⟩;rw[List.getLast?_map,Hl.out]at h;have:x.data.toList=[]:=Option.some.inj h;exact hz (by rw[<-len_of_size,this];rfl)
   clear hsp
   go_wp2
   go_ret;exact⟨xs,w.heap.size,xs.length,rfl,Nat.le_refl _,hpos,hlen,HD,Hsz.out,HT.out,hb1⟩
 ·have hn4:¬(0:Int)<n:=by omega
  have HD:Hid (xs.map (·.data.toList)=Lz.labelsP s.data.toList):=by
   show _=_;unfold Lz.labelsP;rw[hsp.out,if_neg];rintro⟨h,_⟩;exact h1 (by simpa using h)
  clear hsp
  go_wp2
  go_ret;exact⟨xs,w.heap.size,xs.length,rfl,Nat.le_refl _,hpos,hlen,HD,Hsz.out,HT.out,hb1⟩
theorem Trim_digits (s:ByteArray) (hs:s.size<=1073741824) (w:World):
  Calls Tryz.prog 282 #[.string s,.string ⟨#[48,49,50,51,52,53,54,55,56,57]⟩] w (RStr (Lib.trimS s.data.toList [48,49,50,51,52,53,54,55,56,57]) w):=
 (Any.strings_Trim_laid Tryz.lays160 (by kernel_rfl) s ⟨#[48,49,50,51,52,53,54,55,56,57]⟩ w (by omega) (by decide) (ascii_of_all (by decide))).mono fun _ _ ⟨h1,h2⟩=>⟨_,h1,Ih rfl,h2⟩
theorem labelsP_last {xs:List ByteArray} {ls:List (List UInt8)} {x:ByteArray} (h:xs.map (·.data.toList)=ls) (hx:xs[xs.length-1]? =some x):ls.getLastD []=x.data.toList:=by
 rw[<-h,List.getLastD_eq_getLast?,List.getLast?_map,List.getLast?_eq_getElem?,hx];rfl
theorem numbered_any (s:ByteArray) (hs:s.size<=1048576) (w:World) (hE:EnvH w):Calls Tryz.prog 251 #[.string s] w (RBool (Lz.numberedP s.data.toList) w):=by
 have cL:=Ih (labels_any s hs w hE);go_enter Tryz.func251,Tryz.ntmps251
 go_wp2_with fail
 refine(cL.out).mono ?_;rintro e w1 ⟨xs,b,cap,rfl,hcap,hpos,hlen,hls,hsz,hT,hb1⟩;obtain⟨x,hx⟩:∃x,xs[xs.length-1]? =some x:=⟨_,List.getElem?_eq_getElem (by omega)⟩;have hcx:=hT.cells _ _ hx;have hxz:=hsz x (List.mem_of_getElem? hx);have hlast:=labelsP_last hls.out hx;obtain⟨n,hn⟩:∃n,n=xs.length-1:=⟨_,rfl⟩;rw[<-hn]at hcx;have hn1:(xs.length:Int)-1=n:=by omega
 have hn2:(n:Int)<xs.length:=by omega
 have hn0:(0:Int)<=n:=by omega
 obtain⟨q,hq⟩:∃q,q=Lz.allB Lz.isDigit x.data.toList:=⟨_,rfl⟩;have hN:Lz.numberedP s.data.toList=(q||(Lz.numP x.data.toList).isSome):=by unfold Lz.numberedP;rw[hlast,hq]
 have HN:=Ih hN;have Hq:=Ih hq;clear hN hlast hq hn hx hls hsz hT cL;have cN:=Ih (fun W=>number_any x (by omega) W)
 go_upto_region 3 with fail
 go_cut [21] (fun s21 wx=>s21=.bool q/\Below w.heap.size w wx)
 case first=>
  by_cases hz:x.size=0
  ·have he:=isEmpty_of_size hz
   have HQ:Hid (q=false):=by
    show _=_;rw[Hq.out,List.length_eq_zero_iff.1 (show x.data.toList.length=0 by rw[len_of_size];exact hz)];rfl
   go_wp2_with fail
   go_meet;exact⟨by rw[HQ.out],hb1⟩
  ·have he:=isEmpty_of_pos (s:=x) (by omega)
   go_wp2_with fail
   refine(Trim_digits x (by omega) _).mono ?_;rintro e w2 ⟨t,rfl,ht,hb2⟩
   have hqt:q=t.toList.isEmpty:=by
    rw[Hq.out,Lib.toList_data,ht.out];unfold Lz.allB;have hne:x.data.toList≠[]:=by intro h;exact hz (by rw[<-len_of_size,h];rfl)
    rw[Bool.eq_iff_iff];simp only[Bool.and_eq_true,List.isEmpty_iff,Lz.trimS_nil,Bool.not_eq_true',List.isEmpty_eq_false_iff];constructor
    ·rintro⟨h,_⟩;rw[List.all_eq_true]at h⊢;exact fun c hc=>(Lz.digits_contains c).trans (h c hc)
    ·intro h;rw[List.all_eq_true]at h;exact⟨List.all_eq_true.2 (fun c hc=>(Lz.digits_contains c).symm.trans (h c hc)),hne⟩
   have HQ:=Ih hqt;clear hqt
   go_wp2_with fail
   go_meet;exact⟨by rw[HQ.out],below_call hb1 hb2⟩
 case rest=>
  obtain⟨rfl,hbc⟩:=hcut;cases q
  ·go_wp2_with fail
   refine(cN.out _).mono ?_;rintro e w2 ⟨hb2,hr⟩;cases ho:Lz.numP x.data.toList with
   | none=>
     rw[ho]at hr;obtain⟨v,rfl,hF⟩:=hr;obtain⟨t0,x0,rfl⟩:=hF.iface;have HN2:Hid (Lz.numberedP s.data.toList=false):=by show _=_;rw[HN.out,ho];rfl
     clear ho
     go_wp2
     go_ret;exact⟨by rw[HN2.out];rfl,below_call hbc hb2⟩
   | some n=>
     rw[ho]at hr;obtain⟨rfl,_⟩:=hr;have HN2:Hid (Lz.numberedP s.data.toList=true):=by show _=_;rw[HN.out,ho];rfl
     clear ho
     go_wp2
     go_ret;exact⟨by rw[HN2.out];rfl,below_call hbc hb2⟩
  ·have HN2:Hid (Lz.numberedP s.data.toList=true):=by show _=_;rw[HN.out];rfl
   go_wp2
   go_ret;exact⟨by rw[HN2.out];rfl,hbc⟩
theorem infoStr:(Tryz.prog.info? 9).map (fun i=>(i.zero,i.size,i.bytes))=some (some (.string ⟨#[]⟩),1,16):=by kernel_rfl
theorem joinP_eq (sep:List UInt8):∀ls:List (List UInt8),Lib.join ls sep=Lz.joinP sep ls
 | []=>rfl
 | [x]=>by simp[Lib.join,Lz.joinP]
 | x::y::r=>by
   have:=joinP_eq sep (y::r)
   simp[Lib.join,Lz.joinP]at this⊢
   rw[<-this]
theorem own_below {w w1:World} {base:Nat} {e:TypeId} {size n:Nat} {v:Value} {xs:List Value} (h:w.ownsRow base e size v n xs) (hb:Below w.heap.size w w1):w1.ownsRow base e size v n xs:=
 h.kept (row:=none) (by constructor<;>first |exact hb.os|exact hb.tape|exact hb.output|exact hb.size|exact fun k hk _=>hb.block k hk) (by cases hv:v.ownBlock<;>simp)
theorem dec3 (c:UInt8):(Lib.decDigits c.toNat).length<=3:=by revert c;exact Lz.byte_all (by decide +kernel)
theorem texts_own {w:World} {base:Nat} {v:Value} {n:Nat} {xs:List ByteArray} (h:w.ownsRow base 9 1 v n (xs.map Value.string)) (hn:1<=n):
  ∃b cap,v=.slice (some ⟨b,0,none⟩) xs.length cap/\xs.length<=cap/\TextsAt w b xs:=by
 have hl:xs.length=n:=by have:=h.1;simpa using this
 rcases h.2 with⟨rfl,h0⟩|⟨g,cap,cur,rfl,hbg,hg,hnc,hcm,hcs,htk⟩
 ·omega
 ·refine⟨g,cap,by rw[hl],by omega,(Array.getElem?_eq_some_iff.1 hg).1,fun j x hj=>?_⟩;have h2:(xs.map Value.string)[j]? =some (.string x):=by simp[hj]
  rw[<-htk,List.getElem?_take]at h2;split at h2
  ·simp only[World.cell?,hg];simpa using h2
  ·cases h2
theorem join_len (sep:List UInt8) (m:Nat):∀ls:List (List UInt8),(∀x,x∈ls->x.length<=m)->(Lib.join ls sep).length<=ls.length*(m+sep.length):=by
 intro ls;rw[joinP_eq]
 induction ls with
 | nil=>intro _;simp[Lz.joinP]
 | cons x r ih=>
   intro h;have hx:=h x (by simp);have hr:=ih (fun y hy=>h y (by simp[hy]));cases r with
   | nil=>simp[Lz.joinP];omega
   | cons y r=>
     simp only[Lz.joinP,List.length_append,List.length_cons,Nat.succ_mul]at hr⊢;omega
theorem Join_c (b cap:Nat) (xs:List ByteArray) (sep:ByteArray) (w:World) (hT:TextsAt w b xs) (hc:xs.length<=cap) (hn:xs.length<=1000000) (m:Nat) (hm:m<=1000000) (hx:∀x,x∈xs->x.size<=m) (hs:sep.size<=10):
  Calls Tryz.prog 224 #[.slice (some ⟨b,0,none⟩) xs.length cap,.string sep] w (RStr (Lz.joinP sep.data.toList (xs.map (·.data.toList))) w):=by
 have hj:=join_len sep.data.toList m (xs.map (·.data.toList)) (by
  intro y hy;obtain⟨x,hx',rfl⟩:=List.mem_map.1 hy;rw[len_of_size];exact hx x hx')
 rw[List.length_map,len_of_size]at hj;have hb:xs.length*(m+sep.size)<=1000000*1000010:=Nat.mul_le_mul hn (by omega);have h:=Tryz.strings_Join b 0 cap xs sep w (fun j x hj=>by rw[Nat.zero_add];exact hT.cells j x hj) hT.lt (by omega) hc (by omega);exact h.mono fun e w' ⟨h1,h2⟩=>⟨_,h1,Ih (by rw[<-joinP_eq]),h2⟩
theorem dotted_any (v:Value) (l:List UInt8) (w:World) (hE:EnvH w) (hl:SlB w v l) (hlen:l.length<=16) (hl1:1<=l.length):Calls Tryz.prog 315 #[v] w (RStr (Lz.dottedP (l.map (·.toNat))) w):=by
 obtain⟨i0,hi,hz0,hz1,hz2⟩:=info_parts infoStr;obtain⟨a,c,rfl,hl9,hcells⟩:=hl;have Hc:=Ih hcells;clear hcells;have h0:=World.ownsRow_nil w w.heap.size 9 1;go_enter Tryz.func315,Tryz.ntmps315
 go_wp2
 go_loopw [3,8] (fun a i wr=>∃(j:Nat) (xs:List ByteArray),j<=l.length/\i=.int .i64 j/\Hid (xs.map (·.data.toList)=(l.take j).map (fun c=>Lib.decDigits c.toNat))/\wr.ownsRow w.heap.size 9 1 a j (xs.map Value.string)/\Below w.heap.size w wr) (fun _ i _=>l.length-(intOf i).toNat)
 case atStart=>exact⟨0,[],Nat.zero_le _,rfl,Ih rfl,h0,Below.refl _ w⟩
 case round=>
  clear h0;obtain⟨j,xs,hj,rfl,hxs,hown,hb⟩:=hrel;have hsz:=hb.size;have Hown:=Ih hown;by_cases hlt:j<l.length
  ·have hg:l[j]? =some l[j]:=List.getElem?_eq_getElem hlt;obtain⟨B,off,rfl,hBl,hcv⟩:=Hc.out j l[j] hg;have hcv2:wr.cell? ⟨B,off+j,none⟩=some (.int .u8 l[j].toNat):=by rw[hb.cell (p:=⟨B,off+j,none⟩) hBl];exact hcv
   have htk:l.take (j+1)=l.take j++[l[j]]:=by rw[List.take_add_one,hg];rfl
   generalize l[j]=c at *;have Htk:=Ih htk;have hc8:=byte_lt c;clear htk hg hcv hown;have hc0:(0:Int)<=(c.toNat:Int):=by omega
   go_wp2_with fail
   refine(Itoa_h (c.toNat:Int) (by omega) (by omega) _ (hE.below hb)).mono ?_;rintro e w1 ⟨t,rfl,ht,hb1⟩;have Hown1:=Ih (own_below Hown.out hb1);have hb2:Below w.heap.size w w1:=below_call hb hb1;have hsz2:=hb2.size;have hst:xs.map Value.string++[Value.string t]=(xs++[t]).map Value.string:=by simp
   have Hst:=Ih hst
   have hxs2:Hid ((xs++[t]).map (·.data.toList)=(l.take (j+1)).map (fun c=>Lib.decDigits c.toNat)):=by
    show _=_;rw[Htk.out,List.map_append,List.map_append,hxs.out,List.map_singleton,List.map_singleton,ht.out,Lib.itoa_nonneg]
   clear hst Htk
   go_wp2_with (at_builtin;refine wpList_append_own _ rfl (.tmp 12) (.tmp 16) 22 rfl w.heap.size 9 i0 (.string ⟨#[]⟩) 1 16 Tryz.underlying22 hi hz0 hz1 hz2 rfl (by decide) _ _ _ rfl (Hown1.out.alloc _) ⟨w1.heap.size,0,none⟩ 1 1 [.string t] rfl rfl (cell_one _ _ _) (by simp[Value.oneCell']) (by unfold maxLen;omega) (by omega) (by simp;omega) ?_)
   intro v' w3 hown' hgrow _;have hb3:=Below.grown1 hb2 Hown1.out hgrow hsz2 (Nat.le_refl _);rw[Hst.out]at hown';have Hown3:=Ih hown';clear hown' hgrow
   go_wp2
   go_roundw
   case rel=>exact⟨j+1,xs++[t],by omega,by go_num,hxs2.out,Hown3.out,hb3⟩
   case measure=>simp[intOf];omega
  ·have hjl:j=l.length:=by omega
   obtain⟨b,cap,rfl,hcap,hT⟩:=texts_own hown (by omega);have hxl:xs.length=j:=by have:=hown.1;simpa using this
   have hxx:∀x,x∈xs->x.size<=3:=by
    intro x hx;have h1:x.data.toList∈(l.take j).map (fun c=>Lib.decDigits c.toNat):=by rw[<-hxs.out];exact List.mem_map_of_mem hx
    obtain⟨c,_,hc⟩:=List.mem_map.1 h1;rw[<-len_of_size,<-hc];exact dec3 c
   have HX:=Ih hxx;have HT:=Ih hT;have Hcap:=Ih hcap;have hxn:Hid (xs.length<=1000000):=by show _<=_;omega
   have Hj:=Ih hjl;have hlj:¬j<l.length:=hlt;clear hxx hT hown Hown hxl hjl hcap hlt
   go_wp2_with fail
   with_reducible refine(Join_c b cap xs ⟨#[46]⟩ _ HT.out Hcap.out hxn.out 3 (by omega) HX.out (by decide)).mono ?_
   rintro e w1 ⟨u,rfl,hu,hb1⟩
   go_wp2
   go_ret;refine⟨u,rfl,Ih ?_,below_call hb hb1⟩;rw[hu.out,hxs.out,Hj.out,List.take_length];unfold Lz.dottedP;rw[List.map_map];rfl
def RPu (l:List UInt8) (w:World) (e:Ending) (w':World):Prop:=
 Below w.heap.size w w'/\((∃u,Lib.parseUintB 8 l=.ok u/\e=.returned (.tuple #[.int .u64 u,.nilIface]))\/((∀u,Lib.parseUintB 8 l≠.ok u)/\∃n t p,e=.returned (.tuple #[.int .u64 n,.iface t p])))
theorem ParseUint_c (s:ByteArray) (hs:s.size<=1073741824) (w:World) (hE:EnvH w):Calls Tryz.prog 318 #[.string s,.int .i64 10,.int .i64 8] w (RPu s.data.toList w):=by
 by_cases ho:∃u,Lib.parseUintB 8 s.data.toList=.ok u
 ·obtain⟨u,hu⟩:=ho;refine(Tryz.strconv_ParseUint_10_at8_ok s (by omega) u hu w).mono fun e w' ⟨he,hw⟩=>⟨?_,Or.inl ⟨u,hu,he⟩⟩;rcases hw with rfl|rfl
  ·exact Below.refl _ _
  ·exact Lib.bytesWorld_below _ _ _
 ·have hn:∀u,Lib.parseUintB 8 s.data.toList≠.ok u:=fun u h=>ho ⟨u,h⟩;by_cases hr:Lib.parseUintB 8 s.data.toList=.range
  ·obtain⟨te,pe,hv⟩:=hE.rng;refine(Tryz.strconv_ParseUint_10_at8_range s (by omega) hr (.iface te pe) w hv (Or.inr ⟨te,pe,rfl⟩)).mono ?_;rintro e w' ⟨N,he,_,_,hb⟩;exact⟨hb,Or.inr ⟨hn,_,_,_,he⟩⟩
  ·have hx:Lib.parseUintB 8 s.data.toList=Lib.parseUintB 8 []:=by
    cases h:Lib.parseUintB 8 s.data.toList
    all_goals first |rfl|exact absurd h (hn _)|exact absurd h hr
   obtain⟨te,pe,hv⟩:=hE.syn;refine(Tryz.strconv_ParseUint_10_at8_syntax s (by omega) hx (.iface te pe) w hv (Or.inr ⟨te,pe,rfl⟩)).mono ?_;rintro e w' ⟨N,he,_,_,hb⟩;exact⟨hb,Or.inr ⟨hn,_,_,_,he⟩⟩
theorem mapM_snoc_some {f:List UInt8->Option Nat} {l:List (List UInt8)} {ls:List Nat} {x:List UInt8} {n:Nat} (h:l.mapM f=some ls) (hx:f x=some n):(l++[x]).mapM f=some (ls++[n]):=by
 rw[List.mapM_append,h];simp[hx]
theorem mapM_none {f:List UInt8->Option Nat} {l:List (List UInt8)} {x:List UInt8} (hm:x∈l) (hx:f x=none):l.mapM f=none:=by
 obtain⟨a,b,rfl⟩:=List.append_of_mem hm;rw[List.mapM_append,List.mapM_cons,hx];cases a.mapM f<;>simp
def u8n (l:List Nat):List Value:=l.map fun n:Nat=>Value.int .u8 (n:Int)
theorem u8n_snoc (l:List Nat) (n:Nat):u8n l++[.int .u8 (n:Int)]=u8n (l++[n]):=by simp[u8n]
def RByts (o:Option (List Nat)) (w:World) (e:Ending) (w':World):Prop:=
 Below w.heap.size w w'/\match o with
  | some l=>l.length=4/\∃v base,e=.returned (.tuple #[v,.nilIface])/\w.heap.size<=base/\w'.ownsRow base 5 1 v 4 (u8n l)
  | none=>∃v,e=.returned (.tuple #[.slice none 0 0,v])/\Faulty w' 72 1 v
theorem rbyts_fail {w wx:World} {s:ByteArray} {t:TypeId} {fr:Nat×Nat} (hb:Below w.heap.size w wx):
  RByts none w (.returned (.tuple #[.slice none 0 0,.iface 291 (.pointer (some ⟨wx.heap.size,0,none⟩))])) (wx.alloc (.cells #[.string s,.iface 37 (.int .i64 72)] t fr)):=
 ⟨hb.alloc hb.size _,_,rfl,faulty_alloc rfl⟩
theorem parseUint8_le {l:List UInt8} {u:Nat} (h:Lib.parseUintB 8 l=.ok u):u<=255:=Lib.parseUintB_le h
theorem bytes_any (s:ByteArray) (hs:s.size<=1048576) (w:World) (hE:EnvH w):Calls Tryz.prog 313 #[.string s] w (RByts (Lz.bytesP s.data.toList) w):=by
 obtain⟨i0,hi,hz0,hz1,hz2⟩:=info_parts infoByte;have cS:=Ih (Split_h s 46 (by omega) w hE);go_enter Tryz.func313,Tryz.ntmps313
 go_wp2_with fail
 refine(cS.out).mono ?_;rintro e w1 ⟨xs,rfl,hxs,hw1⟩
 have hlen:xs.length<=s.size+1:=by
  have h:=Lz.splitC_len 46 s.data.toList;rw[<-hxs.out,List.length_map,len_of_size]at h;omega
 have hsz:∀x,x∈xs->x.size<=s.size:=fun x hx=>piece_size hxs.out hx;have hb1:Below w.heap.size w w1:=by rw[hw1.out];exact(Below.refl _ w).alloc (Nat.le_refl _) _
 have hT:TextsAt w1 w.heap.size xs:=by
  refine⟨by rw[hw1.out];simp,fun j x hj=>?_⟩;rw[hw1.out];have:=World.cell?_alloc_mark w (xs.map Value.string).toArray 9 (0,0) j;rw[this]
  simp[hj]
 have HT:=Ih hT;have Hsz:=Ih hsz
 have hB:Hid (Lz.bytesP s.data.toList=match (xs.map (·.data.toList)).mapM Lz.byteP with|some l=>if l.length=4 then some l else none|none=>none):=by
  show _=_;rw[hxs.out];rfl
 have hbs1:=hb1.size;clear cS hw1 hT hsz;have hst:=World.ownsRow_nil w1 w1.heap.size 5 1
 go_wp2_with fail
 go_loopw [4,12] (fun a i wr=>∃(j:Nat) (ls:List Nat),j<=xs.length/\i=.int .i64 j/\Hid (((xs.take j).map (·.data.toList)).mapM Lz.byteP=some ls)/\ls.length=j/\wr.ownsRow w1.heap.size 5 1 a j (u8n ls)/\Below w1.heap.size w1 wr) (fun _ i _=>xs.length-(intOf i).toNat)
 case atStart=>exact⟨0,[],Nat.zero_le _,rfl,Ih rfl,rfl,hst,Below.refl _ w1⟩
 case round=>
  clear hst;obtain⟨j,ls,hj,rfl,hls,hlj,hown,hb⟩:=hrel;have hbw:=below_call hb1 hb;have hsz:=hb.size;have Hown:=Ih hown;by_cases hlt:j<xs.length
  ·obtain⟨x,hx⟩:∃x,xs[j]? =some x:=⟨_,List.getElem?_eq_getElem hlt⟩;have hcx:=(HT.out.below hb).cells _ _ hx;have hxz:=Hsz.out x (List.mem_of_getElem? hx);have hxm:Hid (x.data.toList∈xs.map (·.data.toList)):=Ih (List.mem_map_of_mem (List.mem_of_getElem? hx));have htk:xs.take (j+1)=xs.take j++[x]:=by rw[List.take_add_one,hx];rfl
   have Htk:=Ih htk;clear htk hx hown
   go_wp2_with fail
   refine(ParseUint_c x (by omega) _ (hE.below hbw)).mono ?_;rintro e w2 ⟨hb2,⟨u,hu,rfl⟩|⟨hn,n,t,p,rfl⟩⟩
   ·have hu8:=parseUint8_le hu;have Hu:=Ih hu;clear hu;have hbw2:=below_call hbw hb2
    go_wp2_with fail
    refine(Itoa_h (u:Int) (by omega) (by omega) _ (hE.below hbw2)).mono ?_;rintro e w3 ⟨d,rfl,hd,hb3⟩;have hbw3:=below_call hbw2 hb3;have Hown3:=Ih (own_below (own_below Hown.out hb2) hb3);have hbz:=hbw3.size;have hb13:Below w1.heap.size w1 w3:=below_call (below_call hb hb2) hb3;have hsz3:=hb13.size;have hdd:Hid (d.data.toList=Lib.decDigits u):=by show _=_;rw[hd.out,Lib.itoa_nonneg]
    have hby:Hid (Lz.byteP x.data.toList=if d.toList==x.toList then some u else none):=by
     show _=_
     have h1:Lz.byteP x.data.toList=if Lib.decDigits u=x.data.toList then some u else none:=by
      unfold Lz.byteP;rw[Hu.out]
     rw[h1,Lib.toList_data,Lib.toList_data,hdd.out];by_cases h:Lib.decDigits u=x.data.toList<;>simp[h]
    generalize hq:(d.toList==x.toList)=q at hby;cases q
    ·have HB:Hid (Lz.bytesP s.data.toList=none):=by
      show _=_;rw[hB.out,mapM_none hxm.out hby.out]
     go_wp2
     go_ret2
     rw[HB.out];exact rbyts_fail hbw3
    ·have hls2:Hid (((xs.take (j+1)).map (·.data.toList)).mapM Lz.byteP=some (ls++[u])):=by
      show _=_;rw[Htk.out,List.map_append];exact mapM_snoc_some hls.out hby.out
     go_wp2_with (at_builtin;refine wpList_append_own _ rfl (.tmp 34) (.tmp 37) 30 rfl w1.heap.size 5 i0 (.int .u8 0) 1 1 Tryz.underlying30 hi hz0 hz1 hz2 rfl (by decide) _ _ _ rfl (Hown3.out.alloc _) ⟨w3.heap.size,0,none⟩ 1 1 [.int .u8 (u:Int)] rfl rfl (cell_one _ _ _) (by simp[Value.oneCell']) (by unfold maxLen;omega) (by omega) (by simp;omega) ?_)
     intro v' w4 hown' hgrow _;have hb4:Below w1.heap.size w1 w4:=Below.grown1 hb13 Hown3.out hgrow hsz3 (Nat.le_refl _);rw[u8n_snoc]at hown';have Hown4:=Ih hown';clear hown' hgrow
     go_wp2
     go_roundw
     case rel=>exact⟨j+1,ls++[u],by omega,by go_num,hls2.out,by simp[hlj],Hown4.out,hb4⟩
     case measure=>simp[intOf];omega
   ·have HB:Hid (Lz.bytesP s.data.toList=none):=by
     show _=_
     have h1:Lz.byteP x.data.toList=none:=by
      unfold Lz.byteP;split
      ·rename_i n' h;exact absurd h (hn _)
      ·rfl
     rw[hB.out,mapM_none hxm.out h1]
    clear hn
    go_wp2
    go_ret2
    rw[HB.out];exact rbyts_fail (below_call hbw hb2)
  ·have hjl:j=xs.length:=by omega
   have hB2:Hid (Lz.bytesP s.data.toList=if j=4 then some ls else none):=by
    show _=_;have:=hls.out;rw[hjl,List.take_length]at this;rw[hB.out,this];show(if ls.length=4 then some ls else none)=_;rw[hlj]
   obtain⟨a,c,rfl⟩:∃a c,u4=.slice a j c:=by
    rcases hown.2 with⟨rfl,h0⟩|⟨g,cap,cur,rfl,_⟩
    ·exact⟨none,0,by rw[h0]⟩
    ·exact⟨_,_,rfl⟩
   have Hjl:=Ih hjl;have hlt':¬j<xs.length:=hlt;clear hown hjl hlt;by_cases h4:j=4
   ·have HB:Hid (Lz.bytesP s.data.toList=some ls):=by show _=_;rw[hB2.out,if_pos h4]
    have H4:=Ih h4;have h4b:((j:Int) != 4)=false:=by rw[h4];rfl
    clear h4
    go_wp2
    go_ret2
    rw[HB.out];refine⟨hbw,by rw[hlj];exact H4.out,_,w1.heap.size,rfl,hbs1,?_⟩;have:=Hown.out;rw[H4.out]at this⊢;exact this
   ·have HB:Hid (Lz.bytesP s.data.toList=none):=by show _=_;rw[hB2.out,if_neg h4]
    have h4b:((j:Int) != 4)=true:=by simp;omega
    clear h4
    go_wp2
    go_ret2
    rw[HB.out];exact rbyts_fail hbw
end Go.Proofs.YtjhccadmmnjpeaaGreatDoor
