/-
  hosts.labels and hosts.numbered.
-/
import Derived.Test.YtfepgodjaeddgaaGreatDoorQ10
import Derived.Test.YtfepgodjaeddgaaGreatDoorQ13
set_option maxHeartbeats 1000000
set_option maxRecDepth 100000
namespace Lz
open Go
theorem splitC_ne (c:UInt8) (l:Bs):splitC c l≠[]:=by
 cases l with
 | nil=>simp[splitC]
 | cons b r=>
   rw[splitC];split
   ·simp
   ·split<;>simp
theorem dropWhile_nil {p:UInt8->Bool}:∀{l:Bs},l.dropWhile p=[]↔l.all p=true
 | []=>by simp
 | a::r=>by
   rw[List.dropWhile_cons,List.all_cons];cases h:p a
   ·simp
   ·simpa using dropWhile_nil (p:=p) (l:=r)
theorem trimS_nil {l cs:Bs}:Lib.trimS l cs=[]↔l.all (cs.contains ·)=true:=by
 unfold Lib.trimS Lib.trimLeftS Lib.trimRightS;rw[dropWhile_nil];constructor
 ·intro h;rw[List.all_reverse]at h
  have h2:∀r:Bs,(r.dropWhile (cs.contains ·)).all (cs.contains ·)=true->r.all (cs.contains ·)=true:=by
   intro r
   induction r with
   | nil=>simp
   | cons a r ih=>
     rw[List.dropWhile_cons,List.all_cons];cases h:cs.contains a
     ·simp only[Bool.false_eq_true,if_false];rw[List.all_cons,h];simp
     ·simpa using ih
  have:=h2 l.reverse h
  rwa [List.all_reverse]at this
 ·intro h;rw[List.all_reverse];have h2:∀r:Bs,r.all (cs.contains ·)=true->(r.dropWhile (cs.contains ·)).all (cs.contains ·)=true:=fun r hr=>by rw[dropWhile_nil.2 hr];rfl
  exact h2 _ (by rw[List.all_reverse];exact h)
theorem digits_contains (c:UInt8):([48,49,50,51,52,53,54,55,56,57]:Bs).contains c=isDigit c:=by revert c;exact byte_all (by decide +kernel)
end Lz
namespace Go.Proofs.YtfepgodjaeddgaaGreatDoor
open Go.RowKit
structure TextsAt (w:World) (b:Nat) (xs:List ByteArray):Prop where
 lt:b<w.heap.size
 cells:∀j x,xs[j]? =some x->w.cell? ⟨b,j,none⟩=some (.string x)
theorem TextsAt.below {w w':World} {b:Nat} {xs:List ByteArray} (h:TextsAt w b xs) (hb:Below w.heap.size w w'):TextsAt w' b xs:=
 ⟨Nat.lt_of_lt_of_le h.lt hb.size,fun j x hj=>by rw[hb.cell (p:=⟨b,j,none⟩) h.lt];exact h.cells j x hj⟩
theorem TextsAt.take {w:World} {b:Nat} {xs:List ByteArray} (h:TextsAt w b xs) (n:Nat):TextsAt w b (xs.take n):=
 ⟨h.lt,fun j x hj=>h.cells j x (by rw[List.getElem?_take]at hj;split at hj<;>simp_all)⟩
def RLabs (ls:List (List UInt8)) (m:Nat) (w:World) (e:Ending) (w':World):Prop:=
 ∃(xs:List ByteArray) (b cap:Nat),e=.returned (.slice (some ⟨b,0,none⟩) xs.length cap)/\xs.length<=cap/\1<=xs.length/\xs.length<=m+1/\Hid (xs.map (·.data.toList)=ls)/\(∀x,x∈xs->x.size<=m)/\TextsAt w' b xs/\Below w.heap.size w w'
theorem labels_any (s:ByteArray) (hs:s.size<=1048576) (w:World) (hE:EnvH w):Calls Tryz.prog 242 #[.string s] w (RLabs (Lz.labelsP s.data.toList) s.size w):=by
 have cS:=Ih (Split_h s 46 (by omega) w hE);go_enter Tryz.func242,Tryz.ntmps242
 go_wp2_with fail
 refine(cS.out).mono ?_;rintro e w1 ⟨xs,rfl,hxs,hw1⟩;have hsp:Hid (Lz.splitC 46 s.data.toList=xs.map (·.data.toList)):=Ih hxs.out.symm
 have hlen:xs.length<=s.size+1:=by
  have h:=Lz.splitC_len 46 s.data.toList;rw[<-hxs.out,List.length_map,len_of_size]at h;omega
 have hpos:1<=xs.length:=by
  have:=Lz.splitC_ne 46 s.data.toList;rw[<-hxs.out]at this;cases xs with
  | nil=>simp at this
  | cons _ _=>simp
 have hsz:∀x,x∈xs->x.size<=s.size:=fun x hx=>piece_size hxs.out hx;have hb1:Below w.heap.size w w1:=by rw[hw1.out];exact(Below.refl _ w).alloc (Nat.le_refl _) _
 have hT:TextsAt w1 w.heap.size xs:=by
  refine⟨by rw[hw1.out];simp,fun j x hj=>?_⟩;rw[hw1.out];have:=World.cell?_alloc_mark w (xs.map Value.string).toArray 9 (0,0) j;rw[this]
  simp[hj]
 obtain⟨x,hx⟩:∃x,xs[xs.length-1]? =some x:=⟨_,List.getElem?_eq_getElem (by omega)⟩;have hcx:=hT.cells _ _ hx;have hlast:xs.getLast? =some x:=by rw[List.getLast?_eq_getElem?];exact hx
 have HT:=Ih hT;have Hsz:=Ih hsz;have Hl:=Ih hlast;clear cS hw1 hxs hT hsz hx hlast;obtain⟨n,hn⟩:∃n,n=xs.length-1:=⟨_,rfl⟩;rw[<-hn]at hcx;have hn1:(xs.length:Int)-1=n:=by omega
 have hnl:n<xs.length:=by omega
 have hn2:(n:Int)<xs.length:=by omega
 have hn3:(n:Int)<=xs.length:=by omega
 have hn0:(0:Int)<=n:=by omega
 have Hn:=Ih hn;clear hn;by_cases h1:1<xs.length
 ·have hn4:(0:Int)<n:=by omega
  by_cases hz:x.size=0
  ·have he:=isEmpty_of_size hz
   have HD:Hid ((xs.take n).map (·.data.toList)=Lz.labelsP s.data.toList):=by
    show _=_;unfold Lz.labelsP
    rw[hsp.out,if_pos ⟨by simpa using h1,by
     rw[List.getLast?_map,Hl.out];show some x.data.toList=some [];rw[List.length_eq_zero_iff.1 (show x.data.toList.length=0 by rw[len_of_size];exact hz)]⟩]
    rw[List.dropLast_eq_take,List.length_map,List.map_take,Hn.out]
   clear hsp
   go_wp2
   go_ret;refine⟨xs.take n,w.heap.size,xs.length,?_,by simp;omega,by simp;omega,by simp;omega,HD,fun y hy=>Hsz.out y (List.mem_of_mem_take hy),HT.out.take n,hb1⟩;rw[List.length_take,Nat.min_eq_left (by omega)];rfl
  ·have he:=isEmpty_of_pos (s:=x) (by omega)
   have HD:Hid (xs.map (·.data.toList)=Lz.labelsP s.data.toList):=by
    show _=_;unfold Lz.labelsP;rw[hsp.out,if_neg];rintro⟨_,h⟩;rw[List.getLast?_map,Hl.out]at h;have:x.data.toList=[]:=Option.some.inj h;exact hz (by rw[<-len_of_size,this];rfl)
   clear hsp
   go_wp2
   go_ret;exact⟨xs,w.heap.size,xs.length,rfl,Nat.le_refl _,hpos,hlen,HD,Hsz.out,HT.out,hb1⟩
 ·have hn4:¬(0:Int)<n:=by omega
  have HD:Hid (xs.map (·.data.toList)=Lz.labelsP s.data.toList):=by
   show _=_;unfold Lz.labelsP;rw[hsp.out,if_neg];rintro⟨h,_⟩;exact h1 (by simpa using h)
  clear hsp
  go_wp2
  go_ret;exact⟨xs,w.heap.size,xs.length,rfl,Nat.le_refl _,hpos,hlen,HD,Hsz.out,HT.out,hb1⟩
theorem Trim_digits (s:ByteArray) (hs:s.size<=1073741824) (w:World):
  Calls Tryz.prog 243 #[.string s,.string ⟨#[48,49,50,51,52,53,54,55,56,57]⟩] w (RStr (Lib.trimS s.data.toList [48,49,50,51,52,53,54,55,56,57]) w):=
 (Any.strings_Trim_laid Tryz.lays160 (by kernel_rfl) s ⟨#[48,49,50,51,52,53,54,55,56,57]⟩ w (by omega) (by decide) (ascii_of_all (by decide))).mono fun _ _ ⟨h1,h2⟩=>⟨_,h1,Ih rfl,h2⟩
theorem labelsP_last {xs:List ByteArray} {ls:List (List UInt8)} {x:ByteArray} (h:xs.map (·.data.toList)=ls) (hx:xs[xs.length-1]? =some x):ls.getLastD []=x.data.toList:=by
 rw[<-h,List.getLastD_eq_getLast?,List.getLast?_map,List.getLast?_eq_getElem?,hx];rfl
theorem numbered_any (s:ByteArray) (hs:s.size<=1048576) (w:World) (hE:EnvH w):Calls Tryz.prog 215 #[.string s] w (RBool (Lz.numberedP s.data.toList) w):=by
 have cL:=Ih (labels_any s hs w hE);go_enter Tryz.func215,Tryz.ntmps215
 go_wp2_with fail
 refine(cL.out).mono ?_;rintro e w1 ⟨xs,b,cap,rfl,hcap,hpos,hlen,hls,hsz,hT,hb1⟩;obtain⟨x,hx⟩:∃x,xs[xs.length-1]? =some x:=⟨_,List.getElem?_eq_getElem (by omega)⟩;have hcx:=hT.cells _ _ hx;have hxz:=hsz x (List.mem_of_getElem? hx);have hlast:=labelsP_last hls.out hx;obtain⟨n,hn⟩:∃n,n=xs.length-1:=⟨_,rfl⟩;rw[<-hn]at hcx;have hn1:(xs.length:Int)-1=n:=by omega
 have hn2:(n:Int)<xs.length:=by omega
 have hn0:(0:Int)<=n:=by omega
 obtain⟨q,hq⟩:∃q,q=Lz.allB Lz.isDigit x.data.toList:=⟨_,rfl⟩;have hN:Lz.numberedP s.data.toList=(q||(Lz.numP x.data.toList).isSome):=by unfold Lz.numberedP;rw[hlast,hq]
 have HN:=Ih hN;have Hq:=Ih hq;clear hN hlast hq hn hx hls hsz hT cL;have cN:=Ih (fun W=>number_any x (by omega) W)
 go_upto_region 3 with fail
 go_cut [21] (fun s21 wx=>s21=.bool q/\Below w.heap.size w wx)
 case first=>
  by_cases hz:x.size=0
  ·have he:=isEmpty_of_size hz
   have HQ:Hid (q=false):=by
    show _=_;rw[Hq.out,List.length_eq_zero_iff.1 (show x.data.toList.length=0 by rw[len_of_size];exact hz)];rfl
   go_wp2_with fail
   go_meet;exact⟨by rw[HQ.out],hb1⟩
  ·have he:=isEmpty_of_pos (s:=x) (by omega)
   go_wp2_with fail
   refine(Trim_digits x (by omega) _).mono ?_;rintro e w2 ⟨t,rfl,ht,hb2⟩
   have hqt:q=t.toList.isEmpty:=by
    rw[Hq.out,Lib.toList_data,ht.out];unfold Lz.allB;have hne:x.data.toList≠[]:=by intro h;exact hz (by rw[<-len_of_size,h];rfl)
    rw[Bool.eq_iff_iff];simp only[Bool.and_eq_true,List.isEmpty_iff,Lz.trimS_nil,Bool.not_eq_true',List.isEmpty_eq_false_iff];constructor
    ·rintro⟨h,_⟩;rw[List.all_eq_true]at h⊢;exact fun c hc=>(Lz.digits_contains c).trans (h c hc)
    ·intro h;rw[List.all_eq_true]at h;exact⟨List.all_eq_true.2 (fun c hc=>(Lz.digits_contains c).symm.trans (h c hc)),hne⟩
   have HQ:=Ih hqt;clear hqt
   go_wp2_with fail
   go_meet;exact⟨by rw[HQ.out],below_call hb1 hb2⟩
 case rest=>
  obtain⟨rfl,hbc⟩:=hcut;cases q
  ·go_wp2_with fail
   refine(cN.out _).mono ?_;rintro e w2 ⟨hb2,hr⟩;cases ho:Lz.numP x.data.toList with
   | none=>
     rw[ho]at hr;obtain⟨v,rfl,hF⟩:=hr;obtain⟨t0,x0,rfl⟩:=hF.iface;have HN2:Hid (Lz.numberedP s.data.toList=false):=by show _=_;rw[HN.out,ho];rfl
     clear ho
     go_wp2
     go_ret;exact⟨by rw[HN2.out];rfl,below_call hbc hb2⟩
   | some n=>
     rw[ho]at hr;obtain⟨rfl,_⟩:=hr;have HN2:Hid (Lz.numberedP s.data.toList=true):=by show _=_;rw[HN.out,ho];rfl
     clear ho
     go_wp2
     go_ret;exact⟨by rw[HN2.out];rfl,below_call hbc hb2⟩
  ·have HN2:Hid (Lz.numberedP s.data.toList=true):=by show _=_;rw[HN.out];rfl
   go_wp2
   go_ret;exact⟨by rw[HN2.out];rfl,hbc⟩
end Go.Proofs.YtfepgodjaeddgaaGreatDoor
