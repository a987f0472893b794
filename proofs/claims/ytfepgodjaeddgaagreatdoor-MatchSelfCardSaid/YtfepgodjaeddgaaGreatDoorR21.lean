/-
  hosts.domain, hosts.host, hosts.Parse, hosts.IP.
-/
import Derived.Test.YtfepgodjaeddgaaGreatDoorR19
import Derived.Test.YtfepgodjaeddgaaGreatDoorR20
set_option maxHeartbeats 1000000
set_option maxRecDepth 100000
namespace Go.Proofs.YtfepgodjaeddgaaGreatDoor
open Go.RowKit
def RHost (r:Lz.Res) (w:World) (e:Ending) (w':World):Prop:=
 Below w.heap.size w w'/\match r with
  | .ok t=>∃u:ByteArray,e=.returned (.tuple #[.string u,.nilIface])/\Hid (u.data.toList=t)
  | .er n=>∃v d,d<=2/\e=.returned (.tuple #[.string ⟨#[]⟩,v])/\Faulty w' (n:Int) d v
theorem rhost_new {w wx:World} {s:ByteArray} {n:Nat} {v:Value} {d:Nat} {t:TypeId} {fr:Nat×Nat} (hb:Below w.heap.size w wx) (hv:Faulty wx (n:Int) d v) (hd:d<=1):
  RHost (.er n) w (.returned (.tuple #[.string ⟨#[]⟩,.iface 261 (.pointer (some ⟨wx.heap.size,0,none⟩))])) (wx.alloc (.cells #[.string s,v] t fr)):=
 ⟨hb.alloc hb.size _,_,_,Nat.succ_le_succ hd,rfl,faulty_alloc hv⟩
theorem decode_len:∀l:List UInt8,(Lz.decodeP l).length<=l.length:=by
 intro l
 induction h:l.length using Nat.strongRecOn generalizing l with
 | ind n ih=>
   cases l with
   | nil=>rw[Lz.decodeP];simp
   | cons c r=>
     rw[Lz.decodeP];simp only[List.length_cons]at h;split
     ·have:=ih (r.drop 2).length (by simp;omega) (r.drop 2) rfl
      simp at this⊢;omega
     ·have:=ih r.length (by omega) r rfl
      simp;omega
theorem domain_any (s:ByteArray) (hs:s.size<=900000) (w:World) (hE:EnvH w):Calls Tryz.prog 255 #[.string s] w (RHost (Lz.domainP s.data.toList) w):=by
 have hdl:=decode_len s.data.toList;rw[len_of_size]at hdl;have HP:Hid (Lz.domainP s.data.toList=if Lz.low (Lz.decodeP s.data.toList)=[]\/(Lz.low (Lz.decodeP s.data.toList)).any Lz.oddB=true then .er 70 else if Lz.numberedP (Lz.low (Lz.decodeP s.data.toList))then Lz.ofO 71 (Lz.fourP (Lz.labelsP (Lz.low (Lz.decodeP s.data.toList))))else .ok (Lz.low (Lz.decodeP s.data.toList))):=Ih rfl;have Hdl:=Ih hdl;clear hdl;go_enter Tryz.func255,Tryz.ntmps255
 go_wp2_with fail
 refine(Decode_any s (by omega) _).mono ?_;rintro e w1 ⟨d0,rfl,hd0,hb1⟩;have hd0z:d0.size<=s.size:=by rw[<-len_of_size d0,hd0.out];exact Hdl.out
 go_wp2_with fail
 refine(Lower_c d0 (by omega) _).mono ?_;rintro e w2 ⟨d,rfl,hd,hb2⟩;have hdz:d.size<=s.size:=by rw[<-len_of_size d,hd.out,low_length,len_of_size];exact hd0z
 have HQ:Hid (Lz.domainP s.data.toList=if d.data.toList=[]\/d.data.toList.any Lz.oddB=true then .er 70 else if Lz.numberedP d.data.toList then Lz.ofO 71 (Lz.fourP (Lz.labelsP d.data.toList))else .ok d.data.toList):=by
  show _=_;rw[HP.out,hd.out,hd0.out]
 have hx2:=below_call hb1 hb2;clear HP Hdl hd0 hd hb1 hb2
 go_wp2_with fail
 refine(IndexFunc_dom d _).mono ?_;rintro e w3 ⟨i,rfl,hi,hb3⟩;have hx3:=below_call hx2 hb3;by_cases hbad:d.data.toList=[]\/d.data.toList.any Lz.oddB=true
 ·have HN:Hid (Lz.domainP s.data.toList=.er 70):=by show _=_;rw[HQ.out,if_pos hbad]
  by_cases hz:d.size=0
  ·have he:=isEmpty_of_size hz;clear hbad HQ
   go_wp2
   go_ret2
   rw[HN.out];exact rhost_new (d:=0) hx3 rfl (by omega)
  ·have he:=isEmpty_of_pos (s:=d) (by omega)
   have hi0:0<=i:=by
    have h1:=hi.out;rcases hbad with h|h
    ·exact absurd (by rw[<-len_of_size,h];rfl) hz
    ·rw[h]at h1;exact of_decide_eq_true h1
   clear hbad HQ
   go_wp2
   go_ret2
   rw[HN.out];exact rhost_new (d:=0) hx3 rfl (by omega)
 ·have hne:d.data.toList≠[]:=fun h=>hbad (Or.inl h);have hdpos:0<d.size:=by rw[<-len_of_size];exact List.length_pos_iff.2 hne
  have he:=isEmpty_of_pos hdpos
  have hi0:¬0<=i:=by
   intro h;have h1:=hi.out;rw[decide_eq_true h]at h1;exact hbad (Or.inr h1.symm)
  have HQ2:Hid (Lz.domainP s.data.toList=if Lz.numberedP d.data.toList then Lz.ofO 71 (Lz.fourP (Lz.labelsP d.data.toList))else .ok d.data.toList):=by
   show _=_;rw[HQ.out,if_neg hbad]
  have cN:=numbered_any d (by omega) w3 (hE.below hx3);generalize Lz.numberedP d.data.toList=nb at cN HQ2;have CN:=Ih cN;clear hbad hne HQ cN
  go_wp2_with fail
  refine(CN.out).mono ?_;rintro e w4 ⟨rfl,hb4⟩;have hx4:=below_call hx3 hb4;cases nb
  ·have HN:Hid (Lz.domainP s.data.toList=.ok d.data.toList):=by show _=_;rw[HQ2.out];rfl
   go_wp2
   go_ret2
   rw[HN.out];exact⟨hx4,d,rfl,Ih rfl⟩
  ·have HN:Hid (Lz.domainP s.data.toList=Lz.ofO 71 (Lz.fourP (Lz.labelsP d.data.toList))):=by show _=_;rw[HQ2.out];rfl
   go_wp2_with fail
   refine(labels_any d (by omega) _ (hE.below hx4)).mono ?_;rintro e w5 ⟨xs,b,cap,rfl,hcap,hpos,hlen,hls,hsz,hT,hb5⟩;have hx5:=below_call hx4 hb5;have cF:=four_any b cap xs hpos (by omega) (fun x hx=>by have:=hsz x hx;omega) w5 (hE.below hx5) hT;have HN2:Hid (Lz.domainP s.data.toList=Lz.ofO 71 (Lz.fourP (xs.map (·.data.toList)))):=by show _=_;rw[HN.out,hls.out]
   generalize Lz.fourP (xs.map (·.data.toList))=o at cF HN2;have CF:=Ih cF;clear cF hsz hT hls HN HQ2 hpos hlen hcap hb5
   go_wp2_with fail
   refine(CF.out).mono ?_;rintro e w6 ⟨hb6,hres⟩;have hx6:=below_call hx5 hb6;cases o with
   | none=>
     obtain⟨v,dd,hdd,rfl,hfy⟩:=hres;have Hfy:=Ih hfy;clear hfy
     go_wp2
     go_ret2
     rw[HN2.out];exact⟨hx6,v,dd,hdd,rfl,Hfy.out⟩
   | some t=>
     obtain⟨u,rfl,hu⟩:=hres
     go_wp2
     go_ret2
     rw[HN2.out];exact⟨hx6,u,rfl,hu⟩
def CAny (s:ByteArray):Prop:=∀W,EnvH W->Calls Tryz.prog 256 #[.string s,.string bannedB] W (RBool (s.data.toList.any Lz.banned.contains) W)
theorem moreP0:Lz.moreP 0=[]:=rfl
theorem hasPrefix_head (s:List UInt8) (c:UInt8):Lib.hasPrefix s [c]=decide (s[0]? =some c):=by
 unfold Lib.hasPrefix;cases s with
 | nil=>rfl
 | cons b r=>
   rw[Lz.isPrefix_one];by_cases h:c=b
   ·rw[h];simp
   ·have h1:(c==b)=false:=beq_eq_false_iff_ne.2 h;rw[h1,decide_eq_false];intro h2;exact h (Option.some.inj h2).symm
theorem text_len (a:List Nat) (h8:a.length=8) (hl:∀n∈a,n<65536):(Lz.textP a).length<=100:=by
 unfold Lz.textP;have h1:=told_len a hl (by omega);have h2:=told_len (a.take (Lz.runP 0 a (0,0)).1) (fun n hn=>hl n (List.mem_of_mem_take hn)) (by rw[List.length_take];omega);have h3:=told_len (a.drop (Lz.runP 0 a (0,0)).2) (fun n hn=>hl n (List.mem_of_mem_drop hn)) (by rw[List.length_drop];omega);split
 ·omega
 ·rw[List.length_append,List.length_append];show _+2+_<=_;omega
theorem hostH_any (s:ByteArray) (special:Bool) (hs:s.size<=900000) (hca:special=false->s.data.toList[0]? ≠some 91->CAny s) (w:World) (hE:EnvH w):Calls Tryz.prog 228 #[.string s,.bool special] w (RHost (Lz.hostPr s.data.toList special) w):=by
 obtain⟨q,hq⟩:∃q,q=decide (s.data.toList[0]? =some 91):=⟨_,rfl⟩;have cP:=fun W=>HasPrefix_c s ⟨#[91]⟩ W;rw[show Lib.hasPrefix s.data.toList (ByteArray.data ⟨#[91]⟩).toList=q by rw[hq];exact hasPrefix_head _ _]at cP;have CP:=Ih cP;have Hq:=Ih hq;have Hca:=Ih hca;clear cP hq hca;cases q
 ·have h91:s.data.toList[0]? ≠some 91:=of_decide_eq_false Hq.out.symm;cases special
  ·have HP:Hid (Lz.hostPr s.data.toList false=if s.data.toList.any Lz.banned.contains then .er 70 else .ok (Lz.encodeP [] s.data.toList)):=by
    show _=_;unfold Lz.hostPr;rw[if_neg h91];rfl
   have cA:=Hca.out rfl h91;unfold CAny at cA;generalize s.data.toList.any Lz.banned.contains=bad at cA HP;have CA:=Ih cA;clear cA h91;go_enter Tryz.func228,Tryz.ntmps228
   go_wp2_with fail
   refine(CP.out _).mono ?_;rintro e w' ⟨rfl,rfl⟩
   go_wp2_with fail
   refine(CA.out _ hE).mono ?_;rintro e w1 ⟨rfl,hb1⟩;cases bad
   ·have HN:Hid (Lz.hostPr s.data.toList false=.ok (Lz.encodeP [] s.data.toList)):=by show _=_;rw[HP.out];rfl
    go_wp2_with fail
    refine(Encode_any 0 (by omega) s (by omega) _).mono ?_;rintro e w2 ⟨u,rfl,hu,hb2⟩
    go_wp2
    go_ret2
    rw[HN.out];exact⟨below_call hb1 hb2,u,rfl,Ih (by rw[hu.out,moreP0])⟩
   ·have HN:Hid (Lz.hostPr s.data.toList false=.er 70):=by show _=_;rw[HP.out];rfl
    go_wp2
    go_ret2
    rw[HN.out];exact rhost_new (d:=0) hb1 rfl (by omega)
  ·have HP:Hid (Lz.hostPr s.data.toList true=Lz.domainP s.data.toList):=by
    show _=_;unfold Lz.hostPr;rw[if_neg h91];rfl
   have cD:=domain_any s hs w hE;generalize Lz.domainP s.data.toList=r at cD HP;have CD:=Ih cD;clear cD h91;go_enter Tryz.func228,Tryz.ntmps228
   go_wp2_with fail
   refine(CP.out _).mono ?_;rintro e w' ⟨rfl,rfl⟩
   go_wp2_with fail
   refine(CD.out).mono ?_;rintro e w1 ⟨hb1,hres⟩;cases r with
   | ok t=>
     obtain⟨u,rfl,hu⟩:=hres
     go_wp2
     go_ret2
     rw[HP.out];exact⟨hb1,u,rfl,hu⟩
   | er n=>
     obtain⟨v,dd,hdd,rfl,hfy⟩:=hres;have Hfy:=Ih hfy;clear hfy
     go_wp2
     go_ret2
     rw[HP.out];exact⟨hb1,v,dd,hdd,rfl,Hfy.out⟩
 ·have h91:s.data.toList[0]? =some 91:=of_decide_eq_true Hq.out.symm;have hpos:0<s.size:=by rw[<-len_of_size];exact(List.getElem?_eq_some_iff.1 h91).1
  have HP:Hid (Lz.hostPr s.data.toList special=if s.data.toList.length<2\/s.data.toList.getLast? ≠some 93 then .er 72 else Lz.ofO 72 ((Lz.sixP ((s.data.toList.drop 1).dropLast)).map fun a=>[91]++Lz.textP a++[93])):=by
   show _=_;unfold Lz.hostPr;rw[if_pos h91]
  by_cases h2:s.size<2
  ·have HN:Hid (Lz.hostPr s.data.toList special=.er 72):=by show _=_;rw[HP.out,if_pos (Or.inl (by rw[len_of_size];exact h2))]
   have h2':(s.size:Int)<2:=by omega
   have h2b:decide ((s.size:Int)<2)=true:=decide_eq_true h2';go_enter Tryz.func228,Tryz.ntmps228
   go_wp2_with fail
   refine(CP.out _).mono ?_;rintro e w' ⟨rfl,rfl⟩
   go_wp2
   go_ret2
   rw[HN.out];exact rhost_new (d:=0) (Below.refl _ _) rfl (by omega)
  ·have h2':¬(s.size:Int)<2:=by omega
   have h2b:decide ((s.size:Int)<2)=false:=decide_eq_false h2';obtain⟨k,hk⟩:∃k,k=s.size-1:=⟨_,rfl⟩;have hk1:(s.size:Int)-1=(k:Int):=by omega
   have hkl:k<s.size:=by omega
   have hk2:(k:Int)<s.size:=by omega
   have hk0:(0:Int)<=k:=by omega
   have hk3:(1:Int)<=k:=by omega
   have hk4:(k:Int)<=s.size:=by omega
   have hlast:s.data.toList.getLast? =some s[k]:=by
    rw[List.getLast?_eq_getElem?,len_of_size,<-hk];exact get_of_lt hkl
   have Hk:=Ih hk;have Hlast:=Ih hlast;clear hk hlast;by_cases h93:s[k]=93
   ·have hb93:((s[k].toNat:Int) != 93)=false:=by rw[h93];rfl
    have hin:Hid ((s.extract 1 k).data.toList=(s.data.toList.drop 1).dropLast):=by
     show _=_;rw[Lib.extract_data,List.dropLast_eq_take,List.length_drop,len_of_size,Hk.out]
    have hinz:(s.extract 1 k).size<=900000:=by have:=extract_size_le' s 1 k;omega
    have HN:Hid (Lz.hostPr s.data.toList special=Lz.ofO 72 ((Lz.sixP (s.extract 1 k).data.toList).map fun a=>[91]++Lz.textP a++[93])):=by
     show _=_;rw[HP.out,if_neg (by rw[len_of_size,Hlast.out,h93];simp;omega),hin.out]
    have cX:=parseSix_any (s.extract 1 k) (by omega) w hE;have hok:=fun a=>Lz.six_ok (s:=(s.extract 1 k).data.toList) (a:=a);generalize Lz.sixP (s.extract 1 k).data.toList=o at cX HN hok;have CX:=Ih cX;have Hok:=Ih hok;clear cX hok h93 HP h2 hin hinz;go_enter Tryz.func228,Tryz.ntmps228
    go_wp2_with fail
    refine(CP.out _).mono ?_;rintro e w' ⟨rfl,rfl⟩
    go_wp2_with fail
    refine(CX.out).mono ?_;rintro e w1 ⟨hb1,hres⟩;have hr1:∀o,(w1.alloc o).heap[w1.heap.size]? =some o:=fun o=>heap_alloc_new w1 o;have Hr1:=Ih hr1;clear hr1;cases o with
    | none=>
      obtain⟨v,rfl,hfy⟩:=hres;have hfy2:=fun o=>hfy.below ((Below.refl _ w1).alloc (Nat.le_refl _) o);have Hfy:=Ih hfy;have Hfy2:=Ih hfy2;clear hfy2;obtain⟨p,u,rfl,_,_,_⟩:=hfy;have HN2:Hid (Lz.hostPr s.data.toList special=.er 72):=by show _=_;rw[HN.out];rfl
      clear HN
      go_upto_region 5 with(refine store_six rfl _ _ rfl w1.heap.size rfl z8 rfl z8_one rfl _ (Hr1.out _) rfl ?_)
      generalize hw2:(w1.alloc _).setRow w1.heap.size z8=w2;have hf2:Faulty w2 72 1 (.iface 261 (.pointer (some ⟨p,0,none⟩))):=by rw[<-hw2];exact(Hfy2.out _).setRow (Hr1.out (.cells z8 265)) z8
      have hb2:Below w.heap.size w w2:=by rw[<-hw2];exact below_setRow (hb1.alloc hb1.size _) hb1.size _
      clear hw2 Hfy Hfy2 Hr1 CX
      go_wp2
      go_ret2
      rw[HN2.out];exact rhost_new (n:=72) (d:=1) hb2 hf2 (by omega)
    | some a=>
      obtain rfl:=hres;obtain⟨ha8,hal⟩:=Hok.out a rfl;have HN2:Hid (Lz.hostPr s.data.toList special=.ok ([91]++Lz.textP a++[93])):=by show _=_;rw[HN.out];rfl
      have htl:=text_len a ha8 hal;have cT:=fun W hW=>text_any a ha8 hal W hW;unfold sixV at cT;unfold sixV;obtain⟨cs,hcs⟩:∃cs,cs=(a.map fun n:Nat=>Value.int .u16 (n:Int)).toArray:=⟨_,rfl⟩;rw[<-hcs]at cT;rw[<-hcs];have hc8:cs.size=8:=by rw[hcs];simp[ha8]
      have hc1:cs.all (·.oneCell')=true:=by rw[hcs];simp[Value.oneCell']
      have hci:(Tryz.prog.info? 265).map (·.size)=some cs.size:=by rw[six_size,hc8]
      have CT:=Ih cT;have Hc8:=Ih hc8;have Hc1:=Ih hc1;have Hci:=Ih hci;clear cT hc8 hc1 hci ha8 hal hcs Hok HN
      go_upto_region 5 with(refine store_six rfl _ _ rfl w1.heap.size rfl cs Hc8.out Hc1.out rfl _ (Hr1.out _) rfl ?_)
      generalize hw2:(w1.alloc _).setRow w1.heap.size cs=w2;have hr2:w2.heap[w1.heap.size]? =some (.cells cs 265 (0,0)):=by rw[<-hw2];exact setRow_heap _ _ _ _ _ _ (Hr1.out _)
      have hb2:Below w.heap.size w w2:=by rw[<-hw2];exact below_setRow (hb1.alloc hb1.size _) hb1.size _
      have Hr2:=Ih hr2;clear hw2 Hr1 CX hr2
      go_wp2_with (refine wpList_load_row rfl 265 _ rfl w1.heap.size rfl 265 _ (0,0) _ Hr2.out Tryz.underlying265 rfl Hci.out ?_)
      with_reducible refine(CT.out _ (hE.below hb2)).mono ?_
      rintro e w3 ⟨u,rfl,hu,hb3⟩;have huz:u.size<=100:=by rw[<-len_of_size,hu.out];exact htl
      have hs1:¬(9223372036854775807<1+u.size):=by omega
      have hs2:¬(9223372036854775807<1+u.size+1):=by omega
      go_wp2
      go_ret2
      rw[HN2.out];refine⟨below_call hb2 hb3,_,rfl,Ih ?_⟩;rw[append_data',append_data',hu.out]
   ·have hb93:((s[k].toNat:Int) != 93)=true:=by
     have:((s[k].toNat:Int)==93)=false:=(beqI s[k] 93).trans (beq_eq_false_iff_ne.2 h93);simp only[bne,this];rfl
    have HN:Hid (Lz.hostPr s.data.toList special=.er 72):=by
     show _=_;rw[HP.out,if_pos];right;rw[Hlast.out];intro h;exact h93 (Option.some.inj h)
    clear h93;go_enter Tryz.func228,Tryz.ntmps228
    go_wp2_with fail
    refine(CP.out _).mono ?_;rintro e w' ⟨rfl,rfl⟩
    go_wp2
    go_ret2
    rw[HN.out];exact rhost_new (d:=0) (Below.refl _ _) rfl (by omega)
def resT:Lz.Res->List UInt8
 | .ok t=>t
 | .er _=>[]
def resE:Lz.Res->Nat
 | .ok _=>0
 | .er n=>n
def RParseH (r:Lz.Res) (w:World) (e:Ending) (w':World):Prop:=
 ∃u:ByteArray,e=.returned (.tuple #[.string u,.int .i64 (resE r:Nat)])/\Hid (u.data.toList=resT r)/\Below w.heap.size w w'
theorem ParseH_any (s:ByteArray) (special:Bool) (hs:s.size<=900000) (hca:special=false->s.data.toList[0]? ≠some 91->CAny s) (w:World) (hE:EnvH w):Calls Tryz.prog 196 #[.string s,.bool special] w (RParseH (Lz.hostPr s.data.toList special) w):=by
 have cH:=hostH_any s special hs hca w hE;generalize Lz.hostPr s.data.toList special=r at cH⊢;have CH:=Ih cH;clear cH hca;go_enter Tryz.func196,Tryz.ntmps196
 go_wp2_with fail
 refine(CH.out).mono ?_;rintro e w1 ⟨hb1,hres⟩;cases r with
 | ok t=>
   obtain⟨u,rfl,hu⟩:=hres
   go_wp2
   go_ret2
   exact⟨u,rfl,hu,hb1⟩
 | er n=>
   obtain⟨v,d,hd,rfl,hfy⟩:=hres;have cC:=code_any d hd (n:Int) v w1 (hE.below hb1) hfy;have CC:=Ih cC;clear cC;obtain⟨t0,x0,rfl⟩:=hfy.iface
   go_wp2_with fail
   refine(CC.out).mono ?_;rintro e w2 ⟨rfl,hb2⟩
   go_wp2
   go_ret2
   exact⟨⟨#[]⟩,rfl,Ih rfl,below_call hb1 hb2⟩
end Go.Proofs.YtfepgodjaeddgaaGreatDoor
