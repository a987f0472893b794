/-
  strings.IndexRune at a rune beyond 127 in a text of bytes below 128; strings.IndexAny and ContainsAny of any text, at such bytes.
-/
import Derived.Test.YtjhccadmmnjpeaaGreatDoorT18
import Derived.Test.YtjhccadmmnjpeaaGreatDoorT19
import Derived.Lib.QuoteLoop
set_option maxHeartbeats 2000000
set_option maxRecDepth 1000000
namespace Go.Proofs.YtjhccadmmnjpeaaGreatDoor
open Go.RowKit
def RHost (r:Lz.Res) (w:World) (e:Ending) (w':World):Prop:=
 Below w.heap.size w w'/\match r with
  | .ok t=>∃u:ByteArray,e=.returned (.tuple #[.string u,.nilIface])/\Hid (u.data.toList=t)
  | .er n=>∃v d,d<=2/\e=.returned (.tuple #[.string ⟨#[]⟩,v])/\Faulty w' (n:Int) d v
theorem rhost_new {w wx:World} {s:ByteArray} {n:Nat} {v:Value} {d:Nat} {t:TypeId} {fr:Nat×Nat} (hb:Below w.heap.size w wx) (hv:Faulty wx (n:Int) d v) (hd:d<=1):
  RHost (.er n) w (.returned (.tuple #[.string ⟨#[]⟩,.iface 291 (.pointer (some ⟨wx.heap.size,0,none⟩))])) (wx.alloc (.cells #[.string s,v] t fr)):=
 ⟨hb.alloc hb.size _,_,_,Nat.succ_le_succ hd,rfl,faulty_alloc hv⟩
theorem decode_len:∀l:List UInt8,(Lz.decodeP l).length<=l.length:=by
 intro l
 induction h:l.length using Nat.strongRecOn generalizing l with
 | ind n ih=>
   cases l with
   | nil=>rw[Lz.decodeP];simp
   | cons c r=>
     rw[Lz.decodeP];simp only[List.length_cons]at h;split
     ·have:=ih (r.drop 2).length (by simp;omega) (r.drop 2) rfl
      simp at this⊢;omega
     ·have:=ih r.length (by omega) r rfl
      simp;omega
theorem domain_any (s:ByteArray) (hs:s.size<=900000) (w:World) (hE:EnvH w):Calls Tryz.prog 272 #[.string s] w (RHost (Lz.domainP s.data.toList) w):=by
 have hdl:=decode_len s.data.toList;rw[len_of_size]at hdl;have HP:Hid (Lz.domainP s.data.toList=if Lz.low (Lz.decodeP s.data.toList)=[]\/(Lz.low (Lz.decodeP s.data.toList)).any Lz.oddB=true then .er 70 else if Lz.numberedP (Lz.low (Lz.decodeP s.data.toList))then Lz.ofO 71 (Lz.fourP (Lz.labelsP (Lz.low (Lz.decodeP s.data.toList))))else .ok (Lz.low (Lz.decodeP s.data.toList))):=Ih rfl;have Hdl:=Ih hdl;clear hdl;go_enter Tryz.func272,Tryz.ntmps272
 go_wp2_with fail
 refine(Decode_any s (by omega) _).mono ?_;rintro e w1 ⟨d0,rfl,hd0,hb1⟩;have hd0z:d0.size<=s.size:=by rw[<-len_of_size d0,hd0.out];exact Hdl.out
 go_wp2_with fail
 refine(Lower_c d0 (by omega) _).mono ?_;rintro e w2 ⟨d,rfl,hd,hb2⟩;have hdz:d.size<=s.size:=by rw[<-len_of_size d,hd.out,low_length,len_of_size];exact hd0z
 have HQ:Hid (Lz.domainP s.data.toList=if d.data.toList=[]\/d.data.toList.any Lz.oddB=true then .er 70 else if Lz.numberedP d.data.toList then Lz.ofO 71 (Lz.fourP (Lz.labelsP d.data.toList))else .ok d.data.toList):=by
  show _=_;rw[HP.out,hd.out,hd0.out]
 have hx2:=below_call hb1 hb2;clear HP Hdl hd0 hd hb1 hb2
 go_wp2_with fail
 refine(IndexFunc_dom d _).mono ?_;rintro e w3 ⟨i,rfl,hi,hb3⟩;have hx3:=below_call hx2 hb3;by_cases hbad:d.data.toList=[]\/d.data.toList.any Lz.oddB=true
 ·have HN:Hid (Lz.domainP s.data.toList=.er 70):=by show _=_;rw[HQ.out,if_pos hbad]
  by_cases hz:d.size=0
  ·have he:=isEmpty_of_size hz;clear hbad HQ
   go_wp2
   go_ret2
   rw[HN.out];exact rhost_new (d:=0) hx3 rfl (by omega)
  ·have he:=isEmpty_of_pos (s:=d) (by omega)
   have hi0:0<=i:=by
    have h1:=hi.out;rcases hbad with h|h
    ·exact absurd (by rw[<-len_of_size,h];rfl) hz
    ·rw[h]at h1;exact of_decide_eq_true h1
   clear hbad HQ
   go_wp2
   go_ret2
   rw[HN.out];exact rhost_new (d:=0) hx3 rfl (by omega)
 ·have hne:d.data.toList≠[]:=fun h=>hbad (Or.inl h);have hdpos:0<d.size:=by rw[<-len_of_size];exact List.length_pos_iff.2 hne
  have he:=isEmpty_of_pos hdpos
  have hi0:¬0<=i:=by
   intro h;have h1:=hi.out;rw[decide_eq_true h]at h1;exact hbad (Or.inr h1.symm)
  have HQ2:Hid (Lz.domainP s.data.toList=if Lz.numberedP d.data.toList then Lz.ofO 71 (Lz.fourP (Lz.labelsP d.data.toList))else .ok d.data.toList):=by
   show _=_;rw[HQ.out,if_neg hbad]
  have cN:=numbered_any d (by omega) w3 (hE.below hx3);generalize Lz.numberedP d.data.toList=nb at cN HQ2;have CN:=Ih cN;clear hbad hne HQ cN
  go_wp2_with fail
  refine(CN.out).mono ?_;rintro e w4 ⟨rfl,hb4⟩;have hx4:=below_call hx3 hb4;cases nb
  ·have HN:Hid (Lz.domainP s.data.toList=.ok d.data.toList):=by show _=_;rw[HQ2.out];rfl
   go_wp2
   go_ret2
   rw[HN.out];exact⟨hx4,d,rfl,Ih rfl⟩
  ·have HN:Hid (Lz.domainP s.data.toList=Lz.ofO 71 (Lz.fourP (Lz.labelsP d.data.toList))):=by show _=_;rw[HQ2.out];rfl
   go_wp2_with fail
   refine(labels_any d (by omega) _ (hE.below hx4)).mono ?_;rintro e w5 ⟨xs,b,cap,rfl,hcap,hpos,hlen,hls,hsz,hT,hb5⟩;have hx5:=below_call hx4 hb5;have cF:=four_any b cap xs hpos (by omega) (fun x hx=>by have:=hsz x hx;omega) w5 (hE.below hx5) hT;have HN2:Hid (Lz.domainP s.data.toList=Lz.ofO 71 (Lz.fourP (xs.map (·.data.toList)))):=by show _=_;rw[HN.out,hls.out]
   generalize Lz.fourP (xs.map (·.data.toList))=o at cF HN2;have CF:=Ih cF;clear cF hsz hT hls HN HQ2 hpos hlen hcap hb5
   go_wp2_with fail
   refine(CF.out).mono ?_;rintro e w6 ⟨hb6,hres⟩;have hx6:=below_call hx5 hb6;cases o with
   | none=>
     obtain⟨v,dd,hdd,rfl,hfy⟩:=hres;have Hfy:=Ih hfy;clear hfy
     go_wp2
     go_ret2
     rw[HN2.out];exact⟨hx6,v,dd,hdd,rfl,Hfy.out⟩
   | some t=>
     obtain⟨u,rfl,hu⟩:=hres
     go_wp2
     go_ret2
     rw[HN2.out];exact⟨hx6,u,rfl,hu⟩
def CAny (s:ByteArray):Prop:=∀W,EnvH W->Calls Tryz.prog 273 #[.string s,.string bannedB] W (RBool (s.data.toList.any Lz.banned.contains) W)
theorem moreP0:Lz.moreP 0=[]:=rfl
theorem hasPrefix_head (s:List UInt8) (c:UInt8):Lib.hasPrefix s [c]=decide (s[0]? =some c):=by
 unfold Lib.hasPrefix;cases s with
 | nil=>rfl
 | cons b r=>
   rw[Lz.isPrefix_one];by_cases h:c=b
   ·rw[h];simp
   ·have h1:(c==b)=false:=beq_eq_false_iff_ne.2 h;rw[h1,decide_eq_false];intro h2;exact h (Option.some.inj h2).symm
theorem text_len (a:List Nat) (h8:a.length=8) (hl:∀n∈a,n<65536):(Lz.textP a).length<=100:=by
 unfold Lz.textP;have h1:=told_len a hl (by omega);have h2:=told_len (a.take (Lz.runP 0 a (0,0)).1) (fun n hn=>hl n (List.mem_of_mem_take hn)) (by rw[List.length_take];omega);have h3:=told_len (a.drop (Lz.runP 0 a (0,0)).2) (fun n hn=>hl n (List.mem_of_mem_drop hn)) (by rw[List.length_drop];omega);split
 ·omega
 ·rw[List.length_append,List.length_append];show _+2+_<=_;omega
theorem hostH_any (s:ByteArray) (special:Bool) (hs:s.size<=900000) (hca:special=false->s.data.toList[0]? ≠some 91->CAny s) (w:World) (hE:EnvH w):Calls Tryz.prog 243 #[.string s,.bool special] w (RHost (Lz.hostPr s.data.toList special) w):=by
 obtain⟨q,hq⟩:∃q,q=decide (s.data.toList[0]? =some 91):=⟨_,rfl⟩;have cP:=fun W=>HasPrefix_c s ⟨#[91]⟩ W;rw[show Lib.hasPrefix s.data.toList (ByteArray.data ⟨#[91]⟩).toList=q by rw[hq];exact hasPrefix_head _ _]at cP;have CP:=Ih cP;have Hq:=Ih hq;have Hca:=Ih hca;clear cP hq hca;cases q
 ·have h91:s.data.toList[0]? ≠some 91:=of_decide_eq_false Hq.out.symm;cases special
  ·have HP:Hid (Lz.hostPr s.data.toList false=if s.data.toList.any Lz.banned.contains then .er 70 else .ok (Lz.encodeP [] s.data.toList)):=by
    show _=_;unfold Lz.hostPr;rw[if_neg h91];rfl
   have cA:=Hca.out rfl h91;unfold CAny at cA;generalize s.data.toList.any Lz.banned.contains=bad at cA HP;have CA:=Ih cA;clear cA h91;go_enter Tryz.func243,Tryz.ntmps243
   go_wp2_with fail
   refine(CP.out _).mono ?_;rintro e w' ⟨rfl,rfl⟩
   go_wp2_with fail
   refine(CA.out _ hE).mono ?_;rintro e w1 ⟨rfl,hb1⟩;cases bad
   ·have HN:Hid (Lz.hostPr s.data.toList false=.ok (Lz.encodeP [] s.data.toList)):=by show _=_;rw[HP.out];rfl
    go_wp2_with fail
    refine(Encode_any 0 (by omega) s (by omega) _).mono ?_;rintro e w2 ⟨u,rfl,hu,hb2⟩
    go_wp2
    go_ret2
    rw[HN.out];exact⟨below_call hb1 hb2,u,rfl,Ih (by rw[hu.out,moreP0])⟩
   ·have HN:Hid (Lz.hostPr s.data.toList false=.er 70):=by show _=_;rw[HP.out];rfl
    go_wp2
    go_ret2
    rw[HN.out];exact rhost_new (d:=0) hb1 rfl (by omega)
  ·have HP:Hid (Lz.hostPr s.data.toList true=Lz.domainP s.data.toList):=by
    show _=_;unfold Lz.hostPr;rw[if_neg h91];rfl
   have cD:=domain_any s hs w hE;generalize Lz.domainP s.data.toList=r at cD HP;have CD:=Ih cD;clear cD h91;go_enter Tryz.func243,Tryz.ntmps243
   go_wp2_with fail
   refine(CP.out _).mono ?_;rintro e w' ⟨rfl,rfl⟩
   go_wp2_with fail
   refine(CD.out).mono ?_;rintro e w1 ⟨hb1,hres⟩;cases r with
   | ok t=>
     obtain⟨u,rfl,hu⟩:=hres
     go_wp2
     go_ret2
     rw[HP.out];exact⟨hb1,u,rfl,hu⟩
   | er n=>
     obtain⟨v,dd,hdd,rfl,hfy⟩:=hres;have Hfy:=Ih hfy;clear hfy
     go_wp2
     go_ret2
     rw[HP.out];exact⟨hb1,v,dd,hdd,rfl,Hfy.out⟩
 ·have h91:s.data.toList[0]? =some 91:=of_decide_eq_true Hq.out.symm;have hpos:0<s.size:=by rw[<-len_of_size];exact(List.getElem?_eq_some_iff.1 h91).1
  have HP:Hid (Lz.hostPr s.data.toList special=if s.data.toList.length<2\/s.data.toList.getLast? ≠some 93 then .er 72 else Lz.ofO 72 ((Lz.sixP ((s.data.toList.drop 1).dropLast)).map fun a=>[91]++Lz.textP a++[93])):=by
   show _=_;unfold Lz.hostPr;rw[if_pos h91]
  by_cases h2:s.size<2
  ·have HN:Hid (Lz.hostPr s.data.toList special=.er 72):=by show _=_;rw[HP.out,if_pos (Or.inl (by rw[len_of_size];exact h2))]
   have h2':(s.size:Int)<2:=by omega
   have h2b:decide ((s.size:Int)<2)=true:=decide_eq_true h2';go_enter Tryz.func243,Tryz.ntmps243
   go_wp2_with fail
   refine(CP.out _).mono ?_;rintro e w' ⟨rfl,rfl⟩
   go_wp2
   go_ret2
   rw[HN.out];exact rhost_new (d:=0) (Below.refl _ _) rfl (by omega)
  ·have h2':¬(s.size:Int)<2:=by omega
   have h2b:decide ((s.size:Int)<2)=false:=decide_eq_false h2';obtain⟨k,hk⟩:∃k,k=s.size-1:=⟨_,rfl⟩;have hk1:(s.size:Int)-1=(k:Int):=by omega
   have hkl:k<s.size:=by omega
   have hk2:(k:Int)<s.size:=by omega
   have hk0:(0:Int)<=k:=by omega
   have hk3:(1:Int)<=k:=by omega
   have hk4:(k:Int)<=s.size:=by omega
   have hlast:s.data.toList.getLast? =some s[k]:=by
    rw[List.getLast?_eq_getElem?,len_of_size,<-hk];exact get_of_lt hkl
   have Hk:=Ih hk;have Hlast:=Ih hlast;clear hk hlast;by_cases h93:s[k]=93
   ·have hb93:((s[k].toNat:Int) != 93)=false:=by rw[h93];rfl
    have hin:Hid ((s.extract 1 k).data.toList=(s.data.toList.drop 1).dropLast):=by
     show _=_;rw[Lib.extract_data,List.dropLast_eq_take,List.length_drop,len_of_size,Hk.out]
    have hinz:(s.extract 1 k).size<=900000:=by have:=extract_size_le' s 1 k;omega
    have HN:Hid (Lz.hostPr s.data.toList special=Lz.ofO 72 ((Lz.sixP (s.extract 1 k).data.toList).map fun a=>[91]++Lz.textP a++[93])):=by
     show _=_;rw[HP.out,if_neg (by rw[len_of_size,Hlast.out,h93];simp;omega),hin.out]
    have cX:=parseSix_any (s.extract 1 k) (by omega) w hE;have hok:=fun a=>Lz.six_ok (s:=(s.extract 1 k).data.toList) (a:=a);generalize Lz.sixP (s.extract 1 k).data.toList=o at cX HN hok;have CX:=Ih cX;have Hok:=Ih hok;clear cX hok h93 HP h2 hin hinz;go_enter Tryz.func243,Tryz.ntmps243
    go_wp2_with fail
    refine(CP.out _).mono ?_;rintro e w' ⟨rfl,rfl⟩
    go_wp2_with fail
    refine(CX.out).mono ?_;rintro e w1 ⟨hb1,hres⟩;have hr1:∀o,(w1.alloc o).heap[w1.heap.size]? =some o:=fun o=>heap_alloc_new w1 o;have Hr1:=Ih hr1;clear hr1;cases o with
    | none=>
      obtain⟨v,rfl,hfy⟩:=hres;have hfy2:=fun o=>hfy.below ((Below.refl _ w1).alloc (Nat.le_refl _) o);have Hfy:=Ih hfy;have Hfy2:=Ih hfy2;clear hfy2;obtain⟨p,u,rfl,_,_,_⟩:=hfy;have HN2:Hid (Lz.hostPr s.data.toList special=.er 72):=by show _=_;rw[HN.out];rfl
      clear HN
      go_upto_region 5 with(refine store_six rfl _ _ rfl w1.heap.size rfl z8 rfl z8_one rfl _ (Hr1.out _) rfl ?_)
      generalize hw2:(w1.alloc _).setRow w1.heap.size z8=w2;have hf2:Faulty w2 72 1 (.iface 291 (.pointer (some ⟨p,0,none⟩))):=by rw[<-hw2];exact(Hfy2.out _).setRow (Hr1.out (.cells z8 296)) z8
      have hb2:Below w.heap.size w w2:=by rw[<-hw2];exact below_setRow (hb1.alloc hb1.size _) hb1.size _
      clear hw2 Hfy Hfy2 Hr1 CX
      go_wp2
      go_ret2
      rw[HN2.out];exact rhost_new (n:=72) (d:=1) hb2 hf2 (by omega)
    | some a=>
      obtain rfl:=hres;obtain⟨ha8,hal⟩:=Hok.out a rfl;have HN2:Hid (Lz.hostPr s.data.toList special=.ok ([91]++Lz.textP a++[93])):=by show _=_;rw[HN.out];rfl
      have htl:=text_len a ha8 hal;have cT:=fun W hW=>text_any a ha8 hal W hW;unfold sixV at cT;unfold sixV;obtain⟨cs,hcs⟩:∃cs,cs=(a.map fun n:Nat=>Value.int .u16 (n:Int)).toArray:=⟨_,rfl⟩;rw[<-hcs]at cT;rw[<-hcs];have hc8:cs.size=8:=by rw[hcs];simp[ha8]
      have hc1:cs.all (·.oneCell')=true:=by rw[hcs];simp[Value.oneCell']
      have hci:(Tryz.prog.info? 296).map (·.size)=some cs.size:=by rw[six_size,hc8]
      have CT:=Ih cT;have Hc8:=Ih hc8;have Hc1:=Ih hc1;have Hci:=Ih hci;clear cT hc8 hc1 hci ha8 hal hcs Hok HN
      go_upto_region 5 with(refine store_six rfl _ _ rfl w1.heap.size rfl cs Hc8.out Hc1.out rfl _ (Hr1.out _) rfl ?_)
      generalize hw2:(w1.alloc _).setRow w1.heap.size cs=w2;have hr2:w2.heap[w1.heap.size]? =some (.cells cs 296 (0,0)):=by rw[<-hw2];exact setRow_heap _ _ _ _ _ _ (Hr1.out _)
      have hb2:Below w.heap.size w w2:=by rw[<-hw2];exact below_setRow (hb1.alloc hb1.size _) hb1.size _
      have Hr2:=Ih hr2;clear hw2 Hr1 CX hr2
      go_wp2_with (refine wpList_load_row rfl 296 _ rfl w1.heap.size rfl 296 _ (0,0) _ Hr2.out Tryz.underlying296 rfl Hci.out ?_)
      with_reducible refine(CT.out _ (hE.below hb2)).mono ?_
      rintro e w3 ⟨u,rfl,hu,hb3⟩;have huz:u.size<=100:=by rw[<-len_of_size,hu.out];exact htl
      have hs1:¬(9223372036854775807<1+u.size):=by omega
      have hs2:¬(9223372036854775807<1+u.size+1):=by omega
      go_wp2
      go_ret2
      rw[HN2.out];refine⟨below_call hb2 hb3,_,rfl,Ih ?_⟩;rw[append_data',append_data',hu.out]
   ·have hb93:((s[k].toNat:Int) != 93)=true:=by
     have:((s[k].toNat:Int)==93)=false:=(beqI s[k] 93).trans (beq_eq_false_iff_ne.2 h93);simp only[bne,this];rfl
    have HN:Hid (Lz.hostPr s.data.toList special=.er 72):=by
     show _=_;rw[HP.out,if_pos];right;rw[Hlast.out];intro h;exact h93 (Option.some.inj h)
    clear h93;go_enter Tryz.func243,Tryz.ntmps243
    go_wp2_with fail
    refine(CP.out _).mono ?_;rintro e w' ⟨rfl,rfl⟩
    go_wp2
    go_ret2
    rw[HN.out];exact rhost_new (d:=0) (Below.refl _ _) rfl (by omega)
def resT:Lz.Res->List UInt8
 | .ok t=>t
 | .er _=>[]
def resE:Lz.Res->Nat
 | .ok _=>0
 | .er n=>n
def RParseH (r:Lz.Res) (w:World) (e:Ending) (w':World):Prop:=
 ∃u:ByteArray,e=.returned (.tuple #[.string u,.int .i64 (resE r:Nat)])/\Hid (u.data.toList=resT r)/\Below w.heap.size w w'
theorem ParseH_any (s:ByteArray) (special:Bool) (hs:s.size<=900000) (hca:special=false->s.data.toList[0]? ≠some 91->CAny s) (w:World) (hE:EnvH w):Calls Tryz.prog 209 #[.string s,.bool special] w (RParseH (Lz.hostPr s.data.toList special) w):=by
 have cH:=hostH_any s special hs hca w hE;generalize Lz.hostPr s.data.toList special=r at cH⊢;have CH:=Ih cH;clear cH hca;go_enter Tryz.func209,Tryz.ntmps209
 go_wp2_with fail
 refine(CH.out).mono ?_;rintro e w1 ⟨hb1,hres⟩;cases r with
 | ok t=>
   obtain⟨u,rfl,hu⟩:=hres
   go_wp2
   go_ret2
   exact⟨u,rfl,hu,hb1⟩
 | er n=>
   obtain⟨v,d,hd,rfl,hfy⟩:=hres;have cC:=code_any d hd (n:Int) v w1 (hE.below hb1) hfy;have CC:=Ih cC;clear cC;obtain⟨t0,x0,rfl⟩:=hfy.iface
   go_wp2_with fail
   refine(CC.out).mono ?_;rintro e w2 ⟨rfl,hb2⟩
   go_wp2
   go_ret2
   exact⟨⟨#[]⟩,rfl,Ih rfl,below_call hb1 hb2⟩
end Go.Proofs.YtjhccadmmnjpeaaGreatDoor
namespace Lz
open Go
theorem get_nat (s:ByteArray) (j:Nat) (h:j<s.size):(s.get! j).toNat=(s[j]'h).toNat:=by
 congr 1;show s.data[j]! =_;rw[getElem!_pos s.data j h];rfl
theorem hi_bytes (s:ByteArray) (pos:Nat) (h:pos<s.size) (hb:128<=(s[pos]'h).toNat) (j:Nat) (h1:pos<=j) (h2:j<pos+(Utf8.decode s pos).2) (hj:j<s.size):128<=(s[j]'hj).toNat:=by
 rw[Lib.decode_at]at h2;have e0:=get_nat s pos h;by_cases hp:j=pos
 ·subst hp;exact hb
 rcases Lib.decodeN_shape (s.size-pos) (s.get! pos).toNat (s.get! (pos+1)).toNat (s.get! (pos+2)).toNat (s.get! (pos+3)).toNat with⟨h3,_⟩|⟨_,hn,c1,_,h3⟩|⟨_,hn,c1,c2,_,_,h3⟩|⟨_,hn,c1,c2,c3,_,_,h3⟩|h3
 ·omega
 ·rw[h3]at h2;simp only at h2;obtain rfl:j=pos+1:=by omega
  have:=get_nat s (pos+1) hj;omega
 ·rw[h3]at h2;simp only at h2;obtain rfl|rfl:j=pos+1\/j=pos+2:=by omega
  ·have:=get_nat s (pos+1) hj;omega
  ·have:=get_nat s (pos+2) hj;omega
 ·rw[h3]at h2;simp only at h2;obtain rfl|rfl|rfl:j=pos+1\/j=pos+2\/j=pos+3:=by omega
  ·have:=get_nat s (pos+1) hj;omega
  ·have:=get_nat s (pos+2) hj;omega
  ·have:=get_nat s (pos+3) hj;omega
 ·rw[h3]at h2;simp only at h2;omega
theorem rune_valid (s:ByteArray) (pos:Nat):Utf8.valid ((Utf8.decode s pos).1:Int)=true:=by
 have hlt:(s.get! pos).toNat<256:=(s.get! pos).toNat_lt;have:=Lib.decodeN_valid (s.size-pos) (s.get! pos).toNat (s.get! (pos+1)).toNat (s.get! (pos+2)).toNat (s.get! (pos+3)).toNat hlt;rw[<-Lib.decode_at]at this;rw[validRune_eq];unfold validRune;rw[decide_eq_true_eq];omega
theorem any_skip (q:UInt8->Bool) (l:Bs) (pos:Nat):∀k,(∀j b,pos<=j->j<pos+k->l[j]? =some b->q b=false)->(l.drop pos).any q=(l.drop (pos+k)).any q
 | 0,_=>rfl
 | k+1,h=>by
   rw[any_skip q l pos k fun j b h1 h2 hj=>h j b h1 (by omega) hj];by_cases hl:pos+k<l.length
   ·rw[List.drop_eq_getElem_cons hl,List.any_cons,h (pos+k) l[pos+k] (by omega) (by omega) (List.getElem?_eq_getElem hl)];rfl
   ·rw[List.drop_eq_nil_of_le (by omega),List.drop_eq_nil_of_le (by omega)]
end Lz
namespace Go.Proofs.YtjhccadmmnjpeaaGreatDoor
open Go.RowKit
theorem IndexRune_err (ch:ByteArray) (ha:∀c∈ch.data.toList,c.toNat<128) (w:World):Calls Tryz.prog 207 #[.string ch,.int .i32 65533] w (RInt (-1) w):=by
 have Ha:=Ih ha;clear ha;go_enter Tryz.func207,Tryz.ntmps207
 go_wp2
 go_loopg [] ch.size (fun gf wx=>∃pos:Nat,wx.heap[w.heap.size]? =some (.stringIter ch pos)/\Below w.heap.size w wx/\ch.size<=pos+gf)
 case atStart=>exact⟨0,World.iter_heap w ch 0,(Below.refl _ w).alloc (Nat.le_refl _) _,by omega⟩
 case round=>
  obtain⟨pos,hit,hbw,hfu⟩:=hrel;by_cases hps:pos<ch.size
  ·obtain⟨g',rfl⟩:∃g',gk=g'+1:=⟨gk-1,by omega⟩;have hnx:∀ty,(Instr.next (.pointer (some ⟨w.heap.size,0,none⟩)) true ty).run Tryz.prog wr=_:=fun ty=>Lib.run_next_any_at wr w.heap.size ch pos ty hit hps;have h128:(ch[pos]'hps).toNat<128:=Ha.out _ (by rw[List.mem_iff_getElem?];exact⟨pos,get_of_lt hps⟩);rw[decode_ascii ch pos hps h128]at hnx;have hit2:=Lib.iterAt_heap wr w.heap.size ch pos (pos+1) hit;have hbw2:=Lib.below_iterAt hbw (k:=w.heap.size) (Nat.le_refl _) ch (pos+1);generalize wr.iterAt w.heap.size ch (pos+1)=W at hnx hit2 hbw2;have hne:(((ch[pos]'hps).toNat:Int)==65533)=false:=beq_eq_false_iff_ne.2 (by omega);generalize (ch[pos]'hps).toNat=R at hnx hne;clear h128
   go_wp2
   go_roundg g'
   case measure=>omega
   case rel=>exact⟨pos+1,hit2,hbw2,by omega⟩
  ·have hnx:∀ty,(Instr.next (.pointer (some ⟨w.heap.size,0,none⟩)) true ty).run Tryz.prog wr=_:=fun ty=>Lib.run_next_end_at wr w.heap.size ch pos ty hit hps
   go_wp2
   go_ret;exact⟨rfl,hbw⟩
theorem ValidRune_c (r:Int) (w:World):Calls Tryz.prog 241 #[.int .i32 r] w fun e w'=>e=.returned (.bool (Lib.validRune r))/\w=w':=(Tryz.utf8_ValidRune r w).mono fun _ _ ⟨h1,h2⟩=>⟨h1,h2.symm⟩
theorem indexByte_none (ch:ByteArray) (a b:Nat) (ha:∀c∈ch.data.toList,c.toNat<128) (c:UInt8) (hc:128<=c.toNat):Lib.indexByte (ch.extract a b).data.toList c= -1:=by
 apply Lz.indexByte_absent
 intro h;have:=ha c (mem_extract h);omega
theorem IndexRune_val (ch:ByteArray) (ha:∀c∈ch.data.toList,c.toNat<128) (r:Int) (h128:128<=r) (hr:Utf8.valid r=true) (hne:r≠65533) (w:World):Calls Tryz.prog 207 #[.string ch,.int .i32 r] w (RInt (-1) w):=by
 have hv:Lib.validRune r=true:=by
  show validRune r=true;rw[<-validRune_eq];exact hr
 obtain⟨hf1,hf2,hf3⟩:=encode_facts r hr h128;have hneb:(r==65533)=false:=beq_eq_false_iff_ne.2 hne;have hr0:(0:Int)<=r:=by omega
 have hr1:¬r<128:=by omega
 have hr1b:decide (r<128)=false:=decide_eq_false hr1;have cV:=ValidRune_c r w;rw[hv]at cV;have CV:=Ih cV;have Ha:=Ih ha;clear cV hv hr hne ha;have hcv:∀W,(convert 21 9 (.int .i32 r)).run Tryz.prog W=.ok (.string (Utf8.encode r)) W:=fun W=>run_convert_int_string W 21 9 .i32 r (by rw[Tryz.underlying21];rfl) Tryz.underlying9;generalize Utf8.encode r=rs at hf1 hf2 hf3 hcv;obtain⟨k,hk⟩:∃k,k=rs.size-1:=⟨_,rfl⟩;have hkl:k<rs.size:=by omega
 have hkI:(rs.size:Int)-1=(k:Int):=by omega
 have hk3:k<=3:=by omega
 have h8:128<=(rs[k]'hkl).toNat:=by subst hk;exact hf3 hkl
 clear hk hf1 hf2 hf3;have hk0:(0:Int)<=(k:Int):=by omega
 have hkr:(k:Int)<(rs.size:Int):=by omega
 go_enter Tryz.func207,Tryz.ntmps207
 go_wp2_with fail
 refine(CV.out).mono ?_;rintro e w' ⟨rfl,rfl⟩;by_cases hkc:k<ch.size
 ·have hkc1:(k:Int)<(ch.size:Int):=by omega
  have hnb:(((ch[k]'hkc).toNat:Int) != ((rs[k]'hkl).toNat:Int))=true:=by
   have:=Ha.out (ch[k]'hkc) (by rw[List.mem_iff_getElem?];exact⟨k,get_of_lt hkc⟩)
   simp;omega
  have hib:=indexByte_none ch (k+1) ch.size Ha.out (rs[k]'hkl) h8;have cI:=fun W=>IndexByte_c (ch.extract (k+1) ch.size) (rs[k]'hkl) W;rw[hib]at cI;have CI:∀W,Calls Tryz.prog 111 #[.string (ch.extract (k+1) ch.size),.int .u8 ((rs[k]'hkl).toNat:Int)] W fun e w'=>e=.returned (.int .i64 (-1))/\w'=W:=fun W=>(cI W).mono fun _ _ ⟨h1,h2⟩=>⟨h1,h2.symm⟩;have hw1:IntKind.i64.wrap ((k:Int)+1)=(k:Int)+1:=IntWalk.i64_in _ (by omega);have hk1:(0:Int)<=(k:Int)+1:=by omega
  have hk2:(k:Int)+1<=(ch.size:Int):=by omega
  have hk4:((k:Int)+1).toNat=k+1:=by omega
  have HCI:=Ih CI;clear CI cI hib h8
  go_wp2_with fail
  go_step3
  go_wp2_with fail
  refine wp_loop_rounds 1 ?_;rw[rounds_succ]
  go_wp2_with fail
  go_step3
  go_wp2_with fail
  go_quiet (fail)
  have hb1:Below w.heap.size w (w.drewN nq):=below_drewN (Below.refl _ w) nq;generalize w.drewN nq=wa at hb1⊢
  go_wp2_with fail
  go_quiet ((go_at_call 111;exact Calls.quiet_of_same (HCI.out _)))
  go_wp2
  rw[Exit.noGoto_ret];go_ret;exact⟨rfl,below_drewN hb1 _⟩
 ·have hkc1:¬(k:Int)<(ch.size:Int):=by omega
  clear h8
  go_wp2_with fail
  go_step3
  go_wp2_with fail
  refine wp_loop_rounds 1 ?_;rw[rounds_succ]
  go_wp2
  first |rw[Exit.noGoto_ret]|skip
  go_ret;exact⟨rfl,Below.refl _ _⟩
theorem indexByte_mem (c:UInt8):∀l:List UInt8,decide (0<=Lib.indexByte l c)=l.contains c
 | []=>rfl
 | b::l=>by
   have ih:=indexByte_mem c l;have hge:=Lib.indexByte_ge l c;rw[Lib.indexByte,List.contains_cons,<-ih];by_cases h:b=c
   ·subst h;simp
   ·have h1:(b==c)=false:=beq_eq_false_iff_ne.2 h;have h2:(c==b)=false:=beq_eq_false_iff_ne.2 fun e=>h e.symm;rw[h1,h2,Bool.false_or,if_neg (by simp),Bool.eq_iff_iff,decide_eq_true_eq,decide_eq_true_eq];by_cases h3:Lib.indexByte l c= -1
    ·rw[h3];simp
    ·rw[if_neg (by simpa using h3)];omega
theorem IndexRune_asc (ch:ByteArray) (ha:∀c∈ch.data.toList,c.toNat<128) (r:Nat) (hr:Utf8.valid (r:Int)=true) (w:World):
  Calls Tryz.prog 207 #[.string ch,.int .i32 (r:Int)] w fun e w'=>∃i:Int,e=.returned (.int .i64 i)/\Hid (decide (0<=i)=(decide (r<128)&&ch.data.toList.contains (UInt8.ofNat r)))/\Below w.heap.size w w':=by
 rcases Nat.lt_or_ge r 128 with h|h
 ·refine(Tryz.strings_IndexRune_ascii ch (r:Int) w (by omega) (by omega)).mono ?_;rintro e w' ⟨he,rfl⟩;refine⟨_,he,Ih ?_,Below.refl _ _⟩;rw[show((r:Int)).toNat.toUInt8=UInt8.ofNat r from rfl,decide_eq_true h,Bool.true_and];exact indexByte_mem _ _
 ·by_cases h2:r=65533
  ·subst h2;refine(IndexRune_err ch ha w).mono ?_;rintro e w' ⟨he,hb⟩;exact⟨-1,he,Ih (by rfl),hb⟩
  ·refine(IndexRune_val ch ha (r:Int) (by omega) hr (by omega) w).mono ?_;rintro e w' ⟨he,hb⟩;exact⟨-1,he,Ih (by rw[decide_eq_false (show ¬r<128 by omega)];rfl),hb⟩
theorem IndexAny_few (s ch:ByteArray) (h8:s.size<=8) (h2:2<=ch.size) (ha:∀c∈ch.data.toList,c.toNat<128) (w:World):
  Calls Tryz.prog 208 #[.string s,.string ch] w fun e w'=>∃i:Int,e=.returned (.int .i64 i)/\Hid (decide (0<=i)=s.data.toList.any ch.data.toList.contains)/\Below w.heap.size w w':=by
 have he:=isEmpty_of_pos (s:=ch) (by omega);have hc1:((ch.size:Int)==1)=false:=beq_eq_false_iff_ne.2 (by omega);have cU:=fun W=>Tryz.strings_shouldUseASCIISet (s.size:Int) W;rw[decide_eq_false (show ¬(8:Int)<(s.size:Int) by omega)]at cU;have CU:=Ih fun W=>(cU W).mono fun _ _ (h:_/\_)=>(⟨h.1,h.2.symm⟩:_/\W=_);have Ha:=Ih ha;clear cU ha;go_enter Tryz.func208,Tryz.ntmps208
 go_wp2_with fail
 refine(CU.out _).mono ?_;rintro e w' ⟨rfl,rfl⟩
 go_wp2
 go_loopg [] s.size (fun gf wx=>∃pos:Nat,wx.heap[w.heap.size]? =some (.stringIter s pos)/\Below w.heap.size w wx/\s.size<=pos+gf/\Hid (s.data.toList.any ch.data.toList.contains=(s.data.toList.drop pos).any ch.data.toList.contains))
 case atStart=>exact⟨0,World.iter_heap w s 0,(Below.refl _ w).alloc (Nat.le_refl _) _,by omega,Ih (by rw[List.drop_zero])⟩
 case round=>
  obtain⟨pos,hit,hbw,hfu,hS⟩:=hrel;by_cases hps:pos<s.size
  ·obtain⟨g',rfl⟩:∃g',gk=g'+1:=⟨gk-1,by omega⟩;have hnx:∀ty,(Instr.next (.pointer (some ⟨w.heap.size,0,none⟩)) true ty).run Tryz.prog wr=_:=fun ty=>Lib.run_next_any_at wr w.heap.size s pos ty hit hps;have hwd:=Lib.width_pos s pos;have hval:=Lz.rune_valid s pos
   have hstep:Hid ((s.data.toList.drop pos).any ch.data.toList.contains=((decide ((Utf8.decode s pos).1<128)&&ch.data.toList.contains (UInt8.ofNat (Utf8.decode s pos).1))||(s.data.toList.drop (pos+(Utf8.decode s pos).2)).any ch.data.toList.contains)):=by
    show _=_;rcases Nat.lt_or_ge (s[pos]'hps).toNat 128 with h1|h1
    ·rw[decode_ascii s pos hps h1]
     have hd:s.data.toList.drop pos=s[pos]::s.data.toList.drop (pos+1):=by
      rw[List.drop_eq_getElem_cons (show pos<s.data.toList.length from hps)];rfl
     rw[hd,List.any_cons,decide_eq_true h1]
     simp
    ·have hr:=Lz.rune_hi s pos hps h1;rw[decide_eq_false (by omega),Bool.false_and,Bool.false_or];refine Lz.any_skip _ _ _ _ ?_;intro j b h3 h4 hj;have hjl:j<s.size:=by rw[<-len_of_size];exact(List.getElem?_eq_some_iff.1 hj).1
     have h5:=Lz.hi_bytes s pos hps h1 j h3 h4 hjl;rw[get_of_lt hjl]at hj;rw[Option.some.inj hj]at h5;rw[Bool.eq_false_iff];intro hm;have:=Ha.out b (List.contains_iff_mem.1 hm);omega
   generalize hR:(Utf8.decode s pos).1=R at hnx hval hstep;generalize hK:(Utf8.decode s pos).2=K at hnx hwd hstep;clear hR hK;have hit2:=Lib.iterAt_heap wr w.heap.size s pos (pos+K) hit;have hbw2:=Lib.below_iterAt hbw (k:=w.heap.size) (Nat.le_refl _) s (pos+K);have hlw:w.heap.size<(wr.iterAt w.heap.size s (pos+K)).heap.size:=(Array.getElem?_eq_some_iff.1 hit2).1;generalize wr.iterAt w.heap.size s (pos+K)=W at hnx hit2 hbw2 hlw;have CI:=Ih (IndexRune_asc ch Ha.out R hval W);have Hit2:=Ih hit2;clear hval hit2 hit
   go_wp2_with fail
   refine(CI.out).mono ?_;rintro e w2 ⟨i,rfl,hi,hb2⟩;have hit3:Hid (w2.heap[w.heap.size]? =some (.stringIter s (pos+K))):=by show _=_;rw[hb2.block _ hlw];exact Hit2.out
   have hbw3:Below w.heap.size w w2:=hbw2.trans (hb2.mono hbw2.size);by_cases hi0:0<=i
   ·have HD:Hid (s.data.toList.any ch.data.toList.contains=true):=by
     show _=_;have h1:=hi.out;rw[decide_eq_true hi0]at h1;rw[hS.out,hstep.out,<-h1];rfl
    go_wp2
    go_ret;exact⟨(pos:Int),rfl,Ih (by rw[HD.out];exact decide_eq_true (by omega)),hbw3⟩
   ·have HD:Hid (s.data.toList.any ch.data.toList.contains=(s.data.toList.drop (pos+K)).any ch.data.toList.contains):=by
     show _=_;have h1:=hi.out;rw[decide_eq_false hi0]at h1;rw[hS.out,hstep.out,<-h1];rfl
    go_wp2
    go_roundg g'
    case measure=>omega
    case rel=>exact⟨pos+K,hit3.out,hbw3,by omega,HD⟩
  ·have hnx:∀ty,(Instr.next (.pointer (some ⟨w.heap.size,0,none⟩)) true ty).run Tryz.prog wr=_:=fun ty=>Lib.run_next_end_at wr w.heap.size s pos ty hit hps
   have HD:Hid (s.data.toList.any ch.data.toList.contains=false):=by
    show _=_;rw[hS.out,List.drop_eq_nil_of_le (by rw[len_of_size];omega)];rfl
   go_wp2
   go_ret;exact⟨-1,rfl,Ih (by rw[HD.out];rfl),hbw⟩
theorem info256:(Tryz.prog.info? 188).map (fun i=>(i.zero,i.size))=some (some (.agg (Array.replicate 256 (.bool false))),256):=by kernel_rfl
theorem IndexAny_asc (s ch:ByteArray) (hs:s.size<=1073741824) (h2:2<=ch.size) (hz:ch.size<=1000) (ha:∀c∈ch.data.toList,c.toNat<128) (w:World):
  Calls Tryz.prog 208 #[.string s,.string ch] w fun e w'=>∃i:Int,e=.returned (.int .i64 i)/\Hid (decide (0<=i)=s.data.toList.any ch.data.toList.contains)/\Below w.heap.size w w':=by
 by_cases h8:s.size<=8
 ·exact IndexAny_few s ch h8 h2 ha w
 ·refine(Tryz.strings_IndexAny_long (zero_of_info info256).1 s ch w h2 (by omega) (by omega) (by omega) (fun j b hj=>ha b (List.mem_of_getElem? hj))).mono ?_;rintro e w' ⟨he,hw⟩;refine⟨_,he,Ih ?_,?_⟩
  ·have:=Lz.containsAny_eq s.data.toList ch.data.toList;unfold Lib.containsAny at this;exact this
  ·rw[hw];exact((Below.refl _ w).alloc (Nat.le_refl _) _).alloc (by simp) _
theorem banned_asc:∀c∈bannedB.data.toList,c.toNat<128:=by decide
theorem cany_all (s:ByteArray) (hs:s.size<=1073741824):CAny s:=by
 intro W _;have cI:=Ih (IndexAny_asc s bannedB hs (by decide) (by decide) banned_asc W);have hB:s.data.toList.any bannedB.data.toList.contains=s.data.toList.any Lz.banned.contains:=rfl;rw[hB]at cI;generalize s.data.toList.any Lz.banned.contains=q at cI⊢;clear hB;go_enter Tryz.func273,Tryz.ntmps273
 go_wp2_with fail
 refine(cI.out).mono ?_;rintro e w1 ⟨i,rfl,hi,hb⟩;have Hi:=Ih hi.out.symm;clear hi
 go_wp2
 go_ret;exact⟨by rw[Hi.out];rfl,hb⟩
end Go.Proofs.YtjhccadmmnjpeaaGreatDoor
