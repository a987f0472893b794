/-
  lazaretref07: Parse.
-/
import Derived.Test.YtipndhbgehdeoaaGreatDoorQ33
import Derived.Test.YtipndhbgehdeoaaGreatDoorQ37
import Derived.Test.YtipndhbgehdeoaaGreatDoorQ26
set_option maxHeartbeats 2000000
set_option maxRecDepth 100000
namespace Lz
open Go
theorem odd_eq:∀c:UInt8,oddB c=(banned.contains c||decide (c.toNat<32)||decide (126<c.toNat)||c==37):=byte_all (by decide +kernel)
theorem hostPr_open {s:Bs} (h:s[0]? =some 91) (b:Bool):hostPr s b=ofO 72 (parO s):=by
 unfold hostPr parO;rw[if_pos h,sixR_eq];split
 ·rfl
 ·rfl
theorem any_at (p:UInt8->Bool) {l:Bs} {i:Nat} {c:UInt8} (h:l[i]? =some c):(l.drop i).any p=(p c||(l.drop (i+1)).any p):=by
 have hl:=(List.getElem?_eq_some_iff.1 h).1;have he:=(List.getElem?_eq_some_iff.1 h).2;rw[List.drop_eq_getElem_cons hl,he,List.any_cons]
end Lz
namespace Go.Proofs.YtipndhbgehdeoaaGreatDoor
open Go.RowKit
theorem first_no {s:ByteArray} (h:s.data.toList[0]? ≠some 91) (h0:0<s.size):((s[0].toNat:Int)==91)=false:=by
 have:=beqU s[0] 91;rw[show((91:UInt8).toNat:Int)=91 from rfl]at this;rw[this,beq_eq_false_iff_ne];intro e;exact h (by rw[get_of_lt h0,e])
theorem Parse07_plain (s:ByteArray) (hs:s.size<=90000) (h0:s.data.toList[0]? ≠some 91) (w:World):Calls Tryz.prog 39 #[.string s,.bool false] w (RParseH (Lz.hostPr s.data.toList false) w):=by
 have cE:=Ih (fun W=>Encode06_any s 0 (by omega) (by omega) W);obtain⟨q,hq⟩:∃q,q=s.data.toList.any Lz.banned.contains:=⟨_,rfl⟩;obtain⟨r,hr⟩:∃r,r=Lz.hostPr s.data.toList false:=⟨_,rfl⟩
 have HF:Hid (r=if q then .er 70 else .ok (Lz.encodeP [] s.data.toList)):=Ih (by
  rw[hr];unfold Lz.hostPr;rw[if_neg h0,if_neg (by simp),hq])
 rw[<-hr];have HQ:=Ih hq;have hb0:=Below.refl w.heap.size w;have hfn:=fun h=>first_no h0 h;have HN0:=Ih hfn;clear hq h0 hfn hr;go_enter Tryz.func39,Tryz.ntmps39
 go_upto_region 1 with fail
 go_cut [18] (fun s wx=>s=.bool false/\w=wx)
 case first=>
  by_cases hz:0<s.size
  ·have hzI:(0:Int)<(s.size:Int):=by omega
   have hb:=HN0.out hz
   go_wp2_with fail
   go_meet;exact⟨rfl,rfl⟩
  ·have hzI:¬(0:Int)<(s.size:Int):=by omega
   go_wp2_with fail
   go_meet;exact⟨rfl,rfl⟩
 case rest=>
 obtain⟨rfl,rfl⟩:=hcut
 go_wp2_with fail
 go_loopw [8] (fun j wr=>∃i:Nat,j=.int .i64 i/\i<=s.size/\Hid (q=(s.data.toList.drop i).any Lz.banned.contains)/\w=wr) (fun j _=>s.size-(intOf j).toNat)
 case atStart=>exact⟨0,rfl,Nat.zero_le _,HQ,rfl⟩
 case round=>
  obtain⟨i,rfl,hi,HR,rfl⟩:=hrel;by_cases hlt:i<s.size
  ·have hltI:(i:Int)<(s.size:Int):=by omega
   have hi0:(0:Int)<=(i:Int):=by omega
   obtain⟨c,hc⟩:∃c,c=s[i]:=⟨_,rfl⟩;have hcI:(s[i].toNat:Int)=(c.toNat:Int):=by rw[hc]
   have hst:=Lz.any_at Lz.banned.contains (l:=s.data.toList) (i:=i) (c:=c) (by rw[get_of_lt hlt,hc]);have cN:=no07_any c w;generalize Lz.banned.contains c=p at cN hst;have CN:=Ih cN;cases p with
   | true=>
     have HN:Hid (q=true):=Ih (by rw[HR.out,hst];rfl);clear hst cN hc HR
     go_wp2_with fail
     refine CN.out.mono ?_;rintro _ w1 ⟨rfl,rfl⟩
     go_wp2_with fail
     go_ret2
     rw[show r=.er 70 by rw[HF.out,HN.out];rfl];exact⟨_,rfl,rfl,hb0⟩
   | false=>
     have HN:Hid (q=(s.data.toList.drop (i+1)).any Lz.banned.contains):=Ih (by rw[HR.out,hst];rfl);clear hst cN hc HR
     go_wp2_with fail
     refine CN.out.mono ?_;rintro _ w1 ⟨rfl,rfl⟩
     go_wp2_with fail
     go_roundw
     case rel=>exact⟨i+1,by go_num,by omega,HN,by first |rfl|trivial⟩
     case measure=>simp[intOf];omega
  ·have hltI:¬(i:Int)<(s.size:Int):=by omega
   have HN:Hid (q=false):=Ih (by rw[HR.out,List.drop_eq_nil_of_le (by rw[len_of_size];omega)];rfl);clear HR
   go_wp2_with fail
   refine(cE.out _).mono ?_;rintro _ w1 ⟨u,rfl,hu,hb1⟩
   go_wp2_with fail
   go_ret2
   rw[show r=.ok (Lz.encodeP [] s.data.toList) by rw[HF.out,HN.out];rfl];exact⟨_,rfl,hu,hb1⟩
theorem Parse07_special (s:ByteArray) (hs:s.size<=90000) (h0:s.data.toList[0]? ≠some 91) (w:World) (hE:EnvH w):Calls Tryz.prog 39 #[.string s,.bool true] w (RParseH (Lz.hostPr s.data.toList true) w):=by
 have cD:=Ih (Decode06_any s (by omega) w);obtain⟨r,hr⟩:∃r,r=Lz.hostPr s.data.toList true:=⟨_,rfl⟩
 have HF:Hid (r=if Lz.low (Lz.decodeP s.data.toList)=[]\/(Lz.low (Lz.decodeP s.data.toList)).any Lz.oddB=true then .er 70 else if Lz.numberedP (Lz.low (Lz.decodeP s.data.toList))then Lz.ofO 71 (Lz.fourP (Lz.labelsP (Lz.low (Lz.decodeP s.data.toList))))else .ok (Lz.low (Lz.decodeP s.data.toList))):=Ih (by
  rw[hr];unfold Lz.hostPr;rw[if_neg h0,if_pos rfl];rfl)
 have hdl:(Lz.decodeP s.data.toList).length<=90000:=Nat.le_trans (Lz.decode_len _) (by rw[len_of_size];exact hs);rw[<-hr];have hb0:=Below.refl w.heap.size w;have hfn:=fun h=>first_no h0 h;have HN0:=Ih hfn;clear h0 hfn hr;go_enter Tryz.func39,Tryz.ntmps39
 go_upto_region 1 with fail
 go_cut [18] (fun s wx=>s=.bool false/\w=wx)
 case first=>
  by_cases hz:0<s.size
  ·have hzI:(0:Int)<(s.size:Int):=by omega
   have hb:=HN0.out hz
   go_wp2_with fail
   go_meet;exact⟨rfl,rfl⟩
  ·have hzI:¬(0:Int)<(s.size:Int):=by omega
   go_wp2_with fail
   go_meet;exact⟨rfl,rfl⟩
 case rest=>
 obtain⟨rfl,rfl⟩:=hcut
 go_wp2_with fail
 refine cD.out.mono ?_;rintro _ w1 ⟨d1,rfl,hd1,hb1⟩;have hd1z:d1.size<=90000:=by rw[cat_len hd1.out];exact hdl
 have cL:=Ih (Lower02_c d1 (by omega) w1)
 go_wp2_with fail
 refine cL.out.mono ?_;rintro _ w2 ⟨d,rfl,hd,hb2⟩;have hdd:d.data.toList=Lz.low (Lz.decodeP s.data.toList):=by rw[hd.out,hd1.out]
 have hdz:d.size<=90000:=by rw[cat_len hdd];unfold Lz.low;rw[List.length_map];exact hdl
 have hb3:=below_call hb1 hb2;obtain⟨q,hq⟩:∃q,q=d.data.toList.any Lz.oddB:=⟨_,rfl⟩
 have HF2:Hid (r=if d.data.toList=[]\/q=true then .er 70 else if Lz.numberedP d.data.toList then Lz.ofO 71 (Lz.fourP (Lz.labelsP d.data.toList))else .ok d.data.toList):=Ih (by
  rw[HF.out,hq,hdd])
 have HQ:=Ih hq;have hE2:=hE.below hb3;clear hq hdd hd hd1 HF cD cL hdl
 go_wp2_with fail
 go_loopw [10] (fun j wr=>∃i:Nat,j=.int .i64 i/\i<=d.size/\Hid (q=(d.data.toList.drop i).any Lz.oddB)/\w2=wr) (fun j _=>d.size-(intOf j).toNat)
 case atStart=>exact⟨0,rfl,Nat.zero_le _,HQ,rfl⟩
 case round=>
  obtain⟨i,rfl,hi,HR,rfl⟩:=hrel;by_cases hlt:i<d.size
  ·have hltI:(i:Int)<(d.size:Int):=by omega
   have hi0:(0:Int)<=(i:Int):=by omega
   obtain⟨c,hc⟩:∃c,c=d[i]:=⟨_,rfl⟩;have hcI:(d[i].toNat:Int)=(c.toNat:Int):=by rw[hc]
   have hst:=Lz.any_at Lz.oddB (l:=d.data.toList) (i:=i) (c:=c) (by rw[get_of_lt hlt,hc]);have hod:=Lz.odd_eq c;have cN:=no07_any c w2;generalize Lz.banned.contains c=p at cN hod;have CN:=Ih cN;have e37:((c.toNat:Int)==37)=(c==37):=beqU c 37;obtain⟨o,ho⟩:∃o,o=Lz.oddB c:=⟨_,rfl⟩;rw[<-ho]at hst hod;have Hod:=Ih hod;obtain⟨x37,hx37⟩:∃x,x=(c==37):=⟨_,rfl⟩;rw[<-hx37]at e37 Hod;have hyes:Hid (o=true->q=true):=Ih (fun h=>by rw[HR.out,hst,h];rfl);have hgo:Hid (o=false->q=(d.data.toList.drop (i+1)).any Lz.oddB):=Ih (fun h=>by rw[HR.out,hst,h];rfl);clear hst cN hc HR hod ho hx37
   go_upto_region 19 with fail
   go_cut [89] (fun s wx=>s=.bool o/\w2=wx)
   case first=>
    go_wp2_with fail
    refine CN.out.mono ?_;rintro _ wn ⟨rfl,rfl⟩;cases p with
    | true=>
      have HO:Hid (o=true):=Ih (by rw[Hod.out];simp);clear Hod
      go_wp2_with fail
      go_meet;exact⟨by rw[HO.out],rfl⟩
    | false=>
      by_cases k1:c.toNat<32
      ·have k1I:(c.toNat:Int)<32:=by omega
       have HO:Hid (o=true):=Ih (by rw[Hod.out];simp[k1]);clear Hod k1
       go_wp2_with fail
       go_meet;exact⟨by rw[HO.out],rfl⟩
      ·have k1I:¬(c.toNat:Int)<32:=by omega
       by_cases k2:126<c.toNat
       ·have k2I:(126:Int)<(c.toNat:Int):=by omega
        have HO:Hid (o=true):=Ih (by rw[Hod.out];simp[k2]);clear Hod k1 k2
        go_wp2_with fail
        go_meet;exact⟨by rw[HO.out],rfl⟩
       ·have k2I:¬(126:Int)<(c.toNat:Int):=by omega
        have HO:Hid (o=x37):=Ih (by rw[Hod.out];simp[k1,k2]);clear Hod k1 k2
        go_wp2_with fail
        go_meet;exact⟨by rw[HO.out,decide_eq_false (show ¬(c.toNat:Int)<32 by omega),decide_eq_false (show ¬(126:Int)<(c.toNat:Int) by omega)];rfl,rfl⟩
   case rest=>
    obtain⟨rfl,rfl⟩:=hcut;cases o with
    | true=>
      have HR1:Hid (r=.er 70):=Ih (by rw[HF2.out,if_pos (Or.inr (hyes.out rfl))]);clear hyes hgo Hod
      go_wp2_with fail
      go_ret2
      rw[HR1.out];exact⟨_,rfl,rfl,hb3⟩
    | false=>
      have HN:Hid (q=(d.data.toList.drop (i+1)).any Lz.oddB):=Ih (hgo.out rfl);clear hyes hgo Hod
      go_wp2_with fail
      go_roundw
      case rel=>exact⟨i+1,by go_num,by omega,HN,by first |rfl|trivial⟩
      case measure=>simp[intOf];omega
  ·have hltI:¬(i:Int)<(d.size:Int):=by omega
   have HN:Hid (q=false):=Ih (by rw[HR.out,List.drop_eq_nil_of_le (by rw[len_of_size];omega)];rfl);clear HR;by_cases hz:d.size=0
   ·have he:d.toList.isEmpty=true:=isEmpty_of_size hz;have hdz2:d.data.toList=[]:=List.eq_nil_of_length_eq_zero (by rw[len_of_size];exact hz);have HR1:Hid (r=.er 70):=Ih (by rw[HF2.out,if_pos (Or.inl hdz2)]);clear hz hdz2
    go_wp2_with fail
    go_ret2
    rw[HR1.out];exact⟨_,rfl,rfl,hb3⟩
   ·have he:d.toList.isEmpty=false:=isEmpty_of_pos (by omega);have hne:d.data.toList≠[]:=fun h=>hz (by rw[<-len_of_size,h];rfl);have cE:=Ends07_any d (by omega) w2
    have HF3:Hid (r=if Lz.numberedP d.data.toList then Lz.ofO 71 (Lz.fourP (Lz.labelsP d.data.toList))else .ok d.data.toList):=Ih (by
     rw[HF2.out,if_neg (fun h=>h.elim hne (by rw[HN.out];simp))])
    obtain⟨nb,hnb⟩:∃nb,nb=Lz.numberedP d.data.toList:=⟨_,rfl⟩;rw[<-hnb]at cE HF3;have CE:=Ih cE;clear cE hne hz HF2 hnb
    go_wp2_with fail
    refine CE.out.mono ?_;rintro _ w3 ⟨rfl,hb4⟩;have hb5:=below_call hb3 hb4;cases nb with
    | false=>
      have HR1:Hid (r=.ok d.data.toList):=Ih (by rw[HF3.out];rfl)
      go_wp2_with fail
      go_ret2
      rw[HR1.out];exact⟨d,rfl,Ih rfl,hb5⟩
    | true=>
      have HR1:Hid (r=Lz.ofO 71 (Lz.fourP (Lz.labelsP d.data.toList))):=Ih (by rw[HF3.out];rfl);have hE3:=hE2.below hb4;have cL:=Ih (labels07_any d (by omega) w3);clear HF3
      go_wp2_with fail
      refine cL.out.mono ?_;rintro _ w4 ⟨xs,b,cap,rfl,hcap,hpos,hlen,hls,hsz,hT,hb6⟩;have hE4:=hE3.below hb6;have hb7:=below_call hb5 hb6;have cF:=four07_any b cap xs w4 hE4 hT hpos (by omega) (fun x hx=>Nat.le_trans (hsz x hx) (by omega));rw[hls.out]at cF;generalize Lz.fourP (Lz.labelsP d.data.toList)=o at cF HR1;have CF:=Ih cF;clear cF hsz hT hls
      go_wp2_with fail
      refine CF.out.mono ?_;rintro _ w5 ⟨hb8,hres⟩;have hb9:=below_call hb7 hb8;cases o with
      | none=>
        obtain rfl:=hres
        go_wp2_with fail
        go_ret2
        rw[HR1.out];exact⟨_,rfl,rfl,hb9⟩
      | some t=>
        obtain⟨u,rfl,hu⟩:=hres
        go_wp2_with fail
        go_ret2
        rw[HR1.out];exact⟨_,rfl,hu,hb9⟩
theorem Parse07_any (s:ByteArray) (sp:Bool) (hs:s.size<=90000) (w:World) (hE:EnvH w):Calls Tryz.prog 39 #[.string s,.bool sp] w (RParseH (Lz.hostPr s.data.toList sp) w):=by
 by_cases h0:s.data.toList[0]? =some 91
 ·refine(Parse07_open s sp hs h0 w hE).mono ?_;rintro e w' ⟨hb,hres⟩;rw[Lz.hostPr_open h0];cases ho:Lz.parO s.data.toList with
  | none=>rw[ho]at hres;exact⟨_,hres,rfl,hb⟩
  | some t=>rw[ho]at hres;obtain⟨u,he,hu⟩:=hres;exact⟨u,he,hu,hb⟩
 ·cases sp with
  | true=>exact Parse07_special s hs h0 w hE
  | false=>exact Parse07_plain s hs h0 w
end Go.Proofs.YtipndhbgehdeoaaGreatDoor
