/-
  hosts.four: the IPv4 address that labels write.
-/
import Derived.Test.YtjhccadmmnjpeaaGreatDoorT13
set_option maxHeartbeats 2000000
set_option maxRecDepth 100000
namespace Lz
open Go
theorem labB_take (many v k:Nat) (h:k<many):(labB many v).take (many-k)=(labB many v).take (many-(k+1))++[v / 256^k%256]:=by
 have e:many-k=(many-(k+1))+1:=by omega
 rw[e,List.take_add_one];congr 1;unfold labB;rw[List.getElem?_map,List.getElem?_reverse (by simp;omega)];simp only[List.length_range];rw[List.getElem?_range (by omega)];simp only[Option.map_some,Option.toList_some];rw[show many-1-(many-(k+1))=k by omega]
theorem labB_zero (many v:Nat):(labB many v).take 0=[]:=rfl
theorem labB_full (many v:Nat):(labB many v).take many=labB many v:=List.take_of_length_le (by rw[labB_len];exact Nat.le_refl _)
end Lz
namespace Go.Proofs.YtjhccadmmnjpeaaGreatDoor
open Go.RowKit
def RFour (o:Option (List UInt8)) (w:World) (e:Ending) (w':World):Prop:=
 Below w.heap.size w w'/\match o with
  | some t=>∃u:ByteArray,e=.returned (.tuple #[.string u,.nilIface])/\Hid (u.data.toList=t)
  | none=>∃v d,d<=2/\e=.returned (.tuple #[.string ⟨#[]⟩,v])/\Faulty w' 71 d v
theorem rfour_fail {w wx:World} {s:ByteArray} {u:Value} {d:Nat} {t:TypeId} {fr:Nat×Nat} (hb:Below w.heap.size w wx) (hu:Faulty wx 71 d u) (hd:d<=1):
  RFour none w (.returned (.tuple #[.string ⟨#[]⟩,.iface 291 (.pointer (some ⟨wx.heap.size,0,none⟩))])) (wx.alloc (.cells #[.string s,u] t fr)):=
 ⟨hb.alloc hb.size _,_,_,Nat.succ_le_succ hd,rfl,faulty_alloc hu⟩
theorem shr_lab (v k:Nat):(v:Int) / 2^(8*k)=((v / 256^k:Nat):Int):=by
 rw[show(2:Int)^(8*k)=((256^k:Nat):Int) by rw[Int.pow_mul];simp]
 simp
theorem slB_own {w:World} {base:Nat} {v:Value} {n:Nat} {l:List Nat} (h:w.ownsRow base 5 1 v n (u8n l)) (hl:∀x∈l,x<256):SlB w v (l.map UInt8.ofNat):=by
 have hlen:l.length=n:=by have:=h.1;simpa [u8n]using this
 rcases h.2 with⟨rfl,h0⟩|⟨g,cap,cur,rfl,hbg,hg,hnc,hcm,hcs,htk⟩
 ·obtain rfl:l=[]:=List.length_eq_zero_iff.1 (by omega);exact⟨none,0,rfl,by simp,fun j b hj=>by simp at hj⟩
 ·refine⟨some ⟨g,0,none⟩,cap,by rw[List.length_map,hlen],by rw[List.length_map];unfold maxLen at hcm;omega,fun j b hj=>?_⟩;refine⟨g,0,rfl,(Array.getElem?_eq_some_iff.1 hg).1,?_⟩;rw[List.getElem?_map]at hj;cases hx:l[j]? with
  | none=>rw[hx]at hj;cases hj
  | some x=>
    rw[hx]at hj;have hb:UInt8.ofNat x=b:=Option.some.inj hj;have h2:(u8n l)[j]? =some (.int .u8 (x:Int)):=by simp[u8n,hx]
    rw[<-htk,List.getElem?_take]at h2;split at h2
    ·have hxm:=hl x (List.mem_of_getElem? hx);have hb2:(b.toNat:Int)=x:=by rw[<-hb];simp;omega
     rw[hb2,Nat.zero_add];simp only[World.cell?,hg];simpa using h2
    ·cases h2
theorem four_any (b cap:Nat) (xs:List ByteArray) (h1:1<=xs.length) (hn:xs.length<=1000000) (hx:∀x,x∈xs->x.size<=1048576) (w:World) (hE:EnvH w) (hT:TextsAt w b xs):
  Calls Tryz.prog 303 #[.slice (some ⟨b,0,none⟩) xs.length cap] w (RFour (Lz.fourP (xs.map (·.data.toList))) w):=by
 obtain⟨i0,hi,hz0,hz1,hz2⟩:=info_parts infoByte;by_cases h4:4<xs.length
 ·have HN:Hid (Lz.fourP (xs.map (·.data.toList))=none):=by
   show _=_;unfold Lz.fourP;rw[List.length_map,if_pos h4]
  go_enter Tryz.func303,Tryz.ntmps303
  go_wp2
  go_ret2
  rw[HN.out];exact rfour_fail (d:=0) (Below.refl _ _) rfl (by omega)
 ·have HN:Hid (Lz.fourP (xs.map (·.data.toList))=(Lz.fourB xs.length (xs.map (·.data.toList))).map Lz.dottedP):=by
   show _=_;unfold Lz.fourP;rw[List.length_map,if_neg h4]
  have HT:=Ih hT;have Hx:=Ih hx;clear hT hx;have hst:=World.ownsRow_nil w w.heap.size 5 1;go_enter Tryz.func303,Tryz.ntmps303
  go_wp2_with fail
  go_loopw [4,20] (fun a i wr=>∃(j:Nat) (bs:List Nat),j<=xs.length/\bs.length<=4*j/\(j=xs.length->1<=bs.length)/\i=.int .i64 j/\Hid (∀x∈bs,x<256)/\Hid (Lz.fourB xs.length (xs.map (·.data.toList))=(Lz.fourB xs.length ((xs.drop j).map (·.data.toList))).map (bs++·))/\wr.ownsRow w.heap.size 5 1 a bs.length (u8n bs)/\Below w.heap.size w wr) (fun _ i _=>xs.length-(intOf i).toNat)
  case atStart=>exact⟨0,[],Nat.zero_le _,by simp,by omega,rfl,Ih (by simp),by show _=_;simp,hst,Below.refl _ w⟩
  case round=>
   clear hst;obtain⟨j,bs,hj,hbl,hbj,rfl,hlt,hF,hown,hb⟩:=hrel;have hsz:=hb.size;have Hown:=Ih hown;by_cases hjl:j<xs.length
   ·obtain⟨x,hx⟩:∃x,xs[j]? =some x:=⟨_,List.getElem?_eq_getElem hjl⟩;have hcx:=(HT.out.below hb).cells _ _ hx;have hxz:=Hx.out x (List.mem_of_getElem? hx)
    have hdrop:xs.drop j=x::xs.drop (j+1):=by
     rw[List.drop_eq_getElem_cons hjl];congr 1;have:=List.getElem?_eq_getElem hjl;rw[hx]at this;exact(Option.some.inj this).symm
    have hcons0:=Lz.fourB_cons xs.length x.data.toList ((xs.drop (j+1)).map (·.data.toList));have hmap:(xs.drop j).map (·.data.toList)=x.data.toList::(xs.drop (j+1)).map (·.data.toList):=by rw[hdrop];rfl
    rw[<-hmap]at hcons0
    have hlast:((xs.drop (j+1)).map (·.data.toList)=[])↔j+1=xs.length:=by
     rw[List.map_eq_nil_iff,List.drop_eq_nil_iff];omega
    have cN:=fun W=>number_any x (by omega) W;generalize Lz.numP x.data.toList=o at hcons0 cN;have Hlast:=Ih hlast;have hcons:=Ih hcons0;have CN:=Ih cN;clear hx hdrop hmap hcons0 hlast cN hown
    go_wp2_with fail
    refine(CN.out _).mono ?_;rintro e w2 ⟨hb2,hres⟩;have hbw:=below_call hb hb2;cases o with
    | none=>
      obtain⟨v,rfl,hfy⟩:=hres;have Hfy:=Ih hfy;obtain⟨p,u,rfl,_,_,_⟩:=hfy
      have HN2:Hid (Lz.fourP (xs.map (·.data.toList))=none):=by
       show _=_;rw[HN.out,hF.out,hcons.out];rfl
      clear hcons hF
      go_wp2_with fail
      refine(Itoa_h (j:Int) (by omega) (by omega) _ (hE.below hbw)).mono ?_;rintro e w3 ⟨d,rfl,hd,hb3⟩;have hdz:d.size<=21:=by rw[<-len_of_size,hd.out];exact(Lz.atoi_itoa (n:=(j:Int)) (by omega) (by omega)).2.2
      have hds:¬(9223372036854775807<6+d.size):=by omega
      have hbw3:=below_call hbw hb3
      go_wp2
      go_ret2
      rw[HN2.out];exact rfour_fail (d:=1) hbw3 (Hfy.out.below hb3) (by omega)
    | some v=>
    obtain⟨rfl,hv⟩:=hres;by_cases hjn:j+1=xs.length
    ·have hjb:((j:Int)==(xs.length:Int)-1)=true:=by simp;omega
     have hemp:=Hlast.out.2 hjn;obtain⟨many,hmany⟩:∃many:Nat,many=5-xs.length:=⟨_,rfl⟩;have hm14:1<=many/\many<=4:=by omega
     have hcons2:Hid (Lz.fourB xs.length ((xs.drop j).map (·.data.toList))=if 0<v / 256^many then none else(Lz.fourB xs.length ((xs.drop (j+1)).map (·.data.toList))).map fun t=>Lz.labB many v++t):=by
      show _=_;rw[hcons.out,hmany];simp only[hemp,if_true]
     have Hs8:=Ih (shr_lab v many);clear hcons
     go_upto_region 13 with fail
     rw[show Value.int .i64 (5-(xs.length:Int))=Value.int .i64 (many:Int) by congr 1;omega];have hs8:=Hs8.out;generalize hq:v / 256^many=q at hs8 hcons2;have Hq:=Ih hq;clear hmany Hs8 hq;by_cases hq0:0<q
     ·have hqi:(0:Int)<(q:Int):=by omega
      have HN2:Hid (Lz.fourP (xs.map (·.data.toList))=none):=by
       show _=_;rw[HN.out,hF.out,hcons2.out,if_pos hq0];rfl
      go_wp2_with fail
      refine(Itoa_h (j:Int) (by omega) (by omega) _ (hE.below hbw)).mono ?_;rintro e w3 ⟨d,rfl,hd,hb3⟩;have hdz:d.size<=21:=by rw[<-len_of_size,hd.out];exact(Lz.atoi_itoa (n:=(j:Int)) (by omega) (by omega)).2.2
      have hds:¬(9223372036854775807<6+d.size):=by omega
      have hbw3:=below_call hbw hb3
      go_wp2
      go_ret2
      rw[HN2.out];exact rfour_fail (d:=0) hbw3 rfl (by omega)
     ·have hqi:¬(0:Int)<(q:Int):=by omega
      have hF2:Hid (Lz.fourB xs.length (xs.map (·.data.toList))=(Lz.fourB xs.length ((xs.drop (j+1)).map (·.data.toList))).map ((bs++Lz.labB many v)++·)):=by
       show _=_;rw[hF.out,hcons2.out,if_neg hq0];cases Lz.fourB xs.length ((xs.drop (j+1)).map (·.data.toList))<;>simp
      clear hcons2 hF
      go_upto_region 15 with fail
      clear hs8 hqi hq0 Hq;have hml:=Lz.labB_len many v;have Hml:=Ih hml;clear hml;have Hown2:=Ih (own_below Hown.out hb2);have hbz:=hbw.size
      go_wp2_with fail
      go_loopw [4,10] (fun a c wr=>∃r:Nat,r<=many/\c=.int .i64 ((r:Int)-1)/\wr.ownsRow w.heap.size 5 1 a (bs++(Lz.labB many v).take (many-r)).length (u8n (bs++(Lz.labB many v).take (many-r)))/\Below w.heap.size w wr) (fun _ c _=>(intOf c+1).toNat)
      case atStart=>exact⟨many,Nat.le_refl _,rfl,by rw[Nat.sub_self,Lz.labB_zero,List.append_nil];exact Hown2.out,hbw⟩
      case round=>
       clear hbw hbz Hown2;obtain⟨r,hr,rfl,hown3,hb3⟩:=hrel;have hsz3:=hb3.size;cases r with
       | succ k=>
         have hk1:((k+1:Nat):Int)-1=k:=by omega
         rw[hk1];have hk8:8*k<=64:=by omega
         have hs8:=shr_lab v k;have htk:=Lz.labB_take many v k hr
         have hl2:(bs++(Lz.labB many v).take (many-(k+1))).length<=20:=by
          rw[List.length_append,List.length_take];omega
         generalize hbs2:bs++(Lz.labB many v).take (many-(k+1))=bs2 at hown3 hl2
         have hbs3:Hid (bs++(Lz.labB many v).take (many-k)=bs2++[v / 256^k%256]):=by
          show _=_;rw[htk,<-List.append_assoc,hbs2]
         have Hown3:=Ih hown3;generalize v / 256^k=q at hs8 hbs3;clear htk hbs2 hown3 hk1
         go_wp2_with (at_builtin;refine wpList_append_own _ rfl (.tmp 65) (.tmp 71) 30 rfl w.heap.size 5 i0 (.int .u8 0) 1 1 Tryz.underlying30 hi hz0 hz1 hz2 rfl (by decide) _ _ _ rfl (Hown3.out.alloc _) ⟨wr.heap.size,0,none⟩ 1 1 [.int .u8 ((q:Int)%256)] rfl rfl (cell_one _ _ _) (by simp[Value.oneCell']) (by unfold maxLen;omega) (by omega) (by simp;omega) ?_)
         intro v' w4 hown' hgrow _;have hb4:Below w.heap.size w w4:=Below.grown1 hb3 Hown3.out hgrow hsz3 (Nat.le_refl _);rw[show((q:Int)%256)=((q%256:Nat):Int) by omega,u8n_snoc]at hown';have Hown4:=Ih hown';clear hown' hgrow
         go_wp2
         go_roundw
         case rel=>exact⟨k,by omega,rfl,by rw[hbs3.out,List.length_append];exact Hown4.out,hb4⟩
         case measure=>simp[intOf]
       | zero=>
         have Hown3:Hid (wr.ownsRow w.heap.size 5 1 u4 (bs++Lz.labB many v).length (u8n (bs++Lz.labB many v))):=by
          have:=hown3;rw[Nat.sub_zero,Lz.labB_full]at this;exact this
         clear hown3
         go_wp2
         go_roundw
         case rel=>exact⟨j+1,bs++Lz.labB many v,by omega,by rw[List.length_append,Hml.out];omega,by rw[List.length_append,Hml.out];omega,by go_num,Ih (fun x hx=>(List.mem_append.1 hx).elim (hlt.out x) Lz.labB_lt),hF2.out,Hown3.out,hb3⟩
         case measure=>simp[intOf];omega
    ·have hjb:((j:Int)==(xs.length:Int)-1)=false:=by simp;omega
     have hemp:¬((xs.drop (j+1)).map (·.data.toList)=[]):=fun h=>hjn (Hlast.out.1 h);obtain⟨many,hmany⟩:∃many:Nat,many=1:=⟨_,rfl⟩;have hm14:1<=many/\many<=4:=by omega
     have hcons2:Hid (Lz.fourB xs.length ((xs.drop j).map (·.data.toList))=if 0<v / 256^many then none else(Lz.fourB xs.length ((xs.drop (j+1)).map (·.data.toList))).map fun t=>Lz.labB many v++t):=by
      show _=_;rw[hcons.out,hmany];simp only[hemp,if_false]
     have Hs8:=Ih (shr_lab v many);clear hcons
     go_upto_region 13 with fail
     rw[show Value.int .i64 1=Value.int .i64 (many:Int) by congr 1;omega];have hs8:=Hs8.out;generalize hq:v / 256^many=q at hs8 hcons2;have Hq:=Ih hq;clear hmany Hs8 hq;by_cases hq0:0<q
     ·have hqi:(0:Int)<(q:Int):=by omega
      have HN2:Hid (Lz.fourP (xs.map (·.data.toList))=none):=by
       show _=_;rw[HN.out,hF.out,hcons2.out,if_pos hq0];rfl
      go_wp2_with fail
      refine(Itoa_h (j:Int) (by omega) (by omega) _ (hE.below hbw)).mono ?_;rintro e w3 ⟨d,rfl,hd,hb3⟩;have hdz:d.size<=21:=by rw[<-len_of_size,hd.out];exact(Lz.atoi_itoa (n:=(j:Int)) (by omega) (by omega)).2.2
      have hds:¬(9223372036854775807<6+d.size):=by omega
      have hbw3:=below_call hbw hb3
      go_wp2
      go_ret2
      rw[HN2.out];exact rfour_fail (d:=0) hbw3 rfl (by omega)
     ·have hqi:¬(0:Int)<(q:Int):=by omega
      have hF2:Hid (Lz.fourB xs.length (xs.map (·.data.toList))=(Lz.fourB xs.length ((xs.drop (j+1)).map (·.data.toList))).map ((bs++Lz.labB many v)++·)):=by
       show _=_;rw[hF.out,hcons2.out,if_neg hq0];cases Lz.fourB xs.length ((xs.drop (j+1)).map (·.data.toList))<;>simp
      clear hcons2 hF
      go_upto_region 15 with fail
      clear hs8 hqi hq0 Hq;have hml:=Lz.labB_len many v;have Hml:=Ih hml;clear hml;have Hown2:=Ih (own_below Hown.out hb2);have hbz:=hbw.size
      go_wp2_with fail
      go_loopw [4,10] (fun a c wr=>∃r:Nat,r<=many/\c=.int .i64 ((r:Int)-1)/\wr.ownsRow w.heap.size 5 1 a (bs++(Lz.labB many v).take (many-r)).length (u8n (bs++(Lz.labB many v).take (many-r)))/\Below w.heap.size w wr) (fun _ c _=>(intOf c+1).toNat)
      case atStart=>exact⟨many,Nat.le_refl _,rfl,by rw[Nat.sub_self,Lz.labB_zero,List.append_nil];exact Hown2.out,hbw⟩
      case round=>
       clear hbw hbz Hown2;obtain⟨r,hr,rfl,hown3,hb3⟩:=hrel;have hsz3:=hb3.size;cases r with
       | succ k=>
         have hk1:((k+1:Nat):Int)-1=k:=by omega
         rw[hk1];have hk8:8*k<=64:=by omega
         have hs8:=shr_lab v k;have htk:=Lz.labB_take many v k hr
         have hl2:(bs++(Lz.labB many v).take (many-(k+1))).length<=20:=by
          rw[List.length_append,List.length_take];omega
         generalize hbs2:bs++(Lz.labB many v).take (many-(k+1))=bs2 at hown3 hl2
         have hbs3:Hid (bs++(Lz.labB many v).take (many-k)=bs2++[v / 256^k%256]):=by
          show _=_;rw[htk,<-List.append_assoc,hbs2]
         have Hown3:=Ih hown3;generalize v / 256^k=q at hs8 hbs3;clear htk hbs2 hown3 hk1
         go_wp2_with (at_builtin;refine wpList_append_own _ rfl (.tmp 65) (.tmp 71) 30 rfl w.heap.size 5 i0 (.int .u8 0) 1 1 Tryz.underlying30 hi hz0 hz1 hz2 rfl (by decide) _ _ _ rfl (Hown3.out.alloc _) ⟨wr.heap.size,0,none⟩ 1 1 [.int .u8 ((q:Int)%256)] rfl rfl (cell_one _ _ _) (by simp[Value.oneCell']) (by unfold maxLen;omega) (by omega) (by simp;omega) ?_)
         intro v' w4 hown' hgrow _;have hb4:Below w.heap.size w w4:=Below.grown1 hb3 Hown3.out hgrow hsz3 (Nat.le_refl _);rw[show((q:Int)%256)=((q%256:Nat):Int) by omega,u8n_snoc]at hown';have Hown4:=Ih hown';clear hown' hgrow
         go_wp2
         go_roundw
         case rel=>exact⟨k,by omega,rfl,by rw[hbs3.out,List.length_append];exact Hown4.out,hb4⟩
         case measure=>simp[intOf]
       | zero=>
         have Hown3:Hid (wr.ownsRow w.heap.size 5 1 u4 (bs++Lz.labB many v).length (u8n (bs++Lz.labB many v))):=by
          have:=hown3;rw[Nat.sub_zero,Lz.labB_full]at this;exact this
         clear hown3
         go_wp2
         go_roundw
         case rel=>exact⟨j+1,bs++Lz.labB many v,by omega,by rw[List.length_append,Hml.out];omega,by rw[List.length_append,Hml.out];omega,by go_num,Ih (fun x hx=>(List.mem_append.1 hx).elim (hlt.out x) Lz.labB_lt),hF2.out,Hown3.out,hb3⟩
         case measure=>simp[intOf];omega
   ·have hjl2:j=xs.length:=by omega
    have HB:Hid (Lz.fourP (xs.map (·.data.toList))=some (Lz.dottedP bs)):=by
     show _=_;rw[HN.out,hF.out,hjl2,List.drop_length]
     simp[Lz.fourB]
    have hsl:=slB_own hown hlt.out
    have hbn:(bs.map UInt8.ofNat).map (·.toNat)=bs:=by
     rw[List.map_map]
     conv=>rhs;rw[<-List.map_id bs]
     apply List.map_congr_left
     intro x hx;have:=hlt.out x hx
     simp;omega
    have cD:=dotted_any u4 (bs.map UInt8.ofNat) wr (hE.below hb) hsl (by rw[List.length_map];omega) (by rw[List.length_map];exact hbj hjl2);rw[hbn]at cD;have CD:=Ih cD;have hjl3:¬j<xs.length:=hjl;clear hsl hbn cD hown Hown hjl2 hbj hF hjl
    go_wp2_with fail
    refine(CD.out).mono ?_;rintro e w2 ⟨u,rfl,hu,hb2⟩
    go_wp2
    go_ret2
    rw[HB.out];exact⟨below_call hb hb2,u,rfl,hu⟩
end Go.Proofs.YtjhccadmmnjpeaaGreatDoor
