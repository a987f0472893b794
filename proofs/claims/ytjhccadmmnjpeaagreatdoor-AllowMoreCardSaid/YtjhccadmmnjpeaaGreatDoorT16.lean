/-
  hosts.row: the pieces that are written without two colons.
-/
import Derived.Test.YtjhccadmmnjpeaaGreatDoorT13
import Derived.Deep.RegionHeld3
import Derived.Deep.AppendLies
import Derived.Deep.DrawnRows
set_option maxHeartbeats 2000000
set_option maxRecDepth 100000
namespace Lz
open Go
def PieceAt (x:Bs) (k m:Nat):Prop:=(∀c∈x.take k,(hexV c).isSome=true)/\(k<=4->(x.take k).foldlM hexF 0=some m/\m<16^k)/\m<65536
theorem pieceAt_zero (x:Bs):PieceAt x 0 0:=⟨by simp,fun _=>⟨rfl,by simp⟩,by omega⟩
theorem pieceAt_step {x:Bs} {k m d:Nat} {c:UInt8} (h:PieceAt x k m) (hc:x[k]? =some c) (hd:hexV c=some d):PieceAt x (k+1) (m*16%65536||| d):=by
 obtain⟨h1,h2,h3⟩:=h;have hd16:=hexV_lt16 c d hd;have hor:m*16%65536||| d=m*16%65536+d:=nat_join 4 _ _ (by omega) hd16
 have htk:x.take (k+1)=x.take k++[c]:=by rw[List.take_add_one,hc];rfl
 rw[hor];refine⟨fun y hy=>?_,fun hk=>?_,by omega⟩
 ·rw[htk]at hy;rcases List.mem_append.1 hy with hy|hy
  ·exact h1 y hy
  ·rw[List.mem_singleton]at hy;rw[hy,hd];rfl
 ·obtain⟨h4,h5⟩:=h2 (by omega);have hp:16^k<=16^3:=Nat.pow_le_pow_right (by omega) (by omega);rw[htk,List.foldlM_append,h4,Nat.mod_eq_of_lt (by omega)];refine⟨?_,by rw[Nat.pow_succ];omega⟩
  simp[hexF,hd]
theorem fold_none {x:Bs} {c:UInt8} (hc:c∈x) (hn:hexV c=none) (n:Nat):x.foldlM hexF n=none:=by
 obtain⟨a,b,rfl⟩:=List.append_of_mem hc;rw[List.foldlM_append];cases a.foldlM hexF n with
 | none=>rfl
 | some m=>simp[hexF,hn]
theorem piece_none {x:Bs} {c:UInt8} (hc:c∈x) (hn:hexV c=none):pieceP x=none:=by
 unfold pieceP;split
 ·rfl
 ·exact fold_none hc hn 0
theorem piece_done {x:Bs} {m:Nat} (h:PieceAt x x.length m):pieceP x=if x=[]\/4<x.length then none else some m:=by
 unfold pieceP;split
 ·rfl
 ·rename_i hx;have:=(h.2.1 (by omega)).1;rw[List.take_length]at this;exact this
end Lz
namespace Go.Proofs.YtjhccadmmnjpeaaGreatDoor
open Go.RowKit
attribute [local go_sem ↓] Go.wp_at_zero Go.wp_at_succ
theorem i64_and16 (n:Nat):bits .and .i64 (n:Int) 65535=((n%65536:Nat):Int):=by
 have h127:(BitVec.ofInt 64 65535).toNat=2^16-1:=by decide
 have key:(BitVec.ofInt 64 (n:Int)&&& BitVec.ofInt 64 65535).toNat=((n:Int)%((2^64:Nat):Int)).toNat%2^16:=by
  rw[BitVec.toNat_and,BitVec.toNat_ofInt,h127,Nat.and_two_pow_sub_one_eq_mod]
 show IntKind.i64.wrap ((BitVec.ofInt 64 (n:Int)&&& BitVec.ofInt 64 65535).toNat:Nat)=_;rw[key,IntKind.wrap_i64];omega
theorem i64_or16 (a b:Nat) (ha:a<65536) (hb:b<65536):bits .or .i64 (a:Int) (b:Int)=((a||| b:Nat):Int):=by
 have hx:a||| b<2^16:=Nat.or_lt_two_pow (by omega) (by omega)
 show IntKind.i64.wrap ((BitVec.ofInt 64 (a:Int)||| BitVec.ofInt 64 (b:Int)).toNat:Int)=_;rw[BitVec.toNat_or,ofInt_u64 a (by omega),ofInt_u64 b (by omega),IntKind.wrap_i64];omega
theorem infoU16:(Tryz.prog.info? 294).map (fun i=>(i.zero,i.size,i.bytes))=some (some (.int .u16 0),1,2):=by kernel_rfl
def u16n (l:List Nat):List Value:=l.map fun n:Nat=>Value.int .u16 (n:Int)
theorem u16n_snoc (l:List Nat) (n:Nat):u16n l++[.int .u16 (n:Int)]=u16n (l++[n]):=by simp[u16n]
def RRow (o:Option (List Nat)) (w:World) (e:Ending) (w':World):Prop:=
 Below w.heap.size w w'/\match o with
  | some l=>∃v base,e=.returned (.tuple #[v,.nilIface])/\w.heap.size<=base/\w'.ownsRow base 294 1 v l.length (u16n l)
  | none=>∃v,e=.returned (.tuple #[.slice none 0 0,v])/\Faulty w' 72 1 v
theorem rrow_fail {w wx:World} {s:ByteArray} {t:TypeId} {fr:Nat×Nat} (hb:Below w.heap.size w wx):
  RRow none w (.returned (.tuple #[.slice none 0 0,.iface 291 (.pointer (some ⟨wx.heap.size,0,none⟩))])) (wx.alloc (.cells #[.string s,.iface 37 (.int .i64 72)] t fr)):=
 ⟨hb.alloc hb.size _,_,rfl,faulty_alloc rfl⟩
theorem Contains_c (s sub:ByteArray) (hs:s.size<=1073741824) (w:World) (hE:EnvH w):Calls Tryz.prog 312 #[.string s,.string sub] w fun e w'=>e=.returned (.bool (Lib.contains s.data.toList sub.data.toList))/\w=w':=by
 obtain⟨m,hm⟩:=hE.ml;exact(Tryz.strings_Contains s sub m w (by omega) hm).mono fun _ _ ⟨h1,h2⟩=>⟨h1,h2.symm⟩
theorem contains_one (c:UInt8):∀s:List UInt8,Lib.contains s [c]=s.contains c
 | []=>rfl
 | b::s=>by
   have ih:=contains_one c s;unfold Lib.contains at ih⊢;by_cases h:b=c
   ·rw[Lz.index_one_hit h,h];simp
   ·rw[Lz.index_one_miss h,List.contains_cons,<-ih];have h1:(c==b)=false:=by simpa using fun e=>h e.symm
    have h2:=Lib.index_ge s [c];rw[h1,Bool.false_or,Bool.eq_iff_iff,decide_eq_true_eq,decide_eq_true_eq];by_cases h3:Lib.index s [c]= -1
    ·rw[h3];simp
    ·rw[if_neg (by simpa using h3)];omega
theorem own4 {w:World} {base:Nat} {v:Value} {p q r s:Nat} (h:w.ownsRow base 5 1 v 4 (u8n [p,q,r,s])):
  ∃g cap,v=.slice (some ⟨g,0,none⟩) 4 cap/\4<=cap/\base<=g/\g<w.heap.size/\w.cell? ⟨g,0,none⟩=some (.int .u8 p)/\w.cell? ⟨g,1,none⟩=some (.int .u8 q)/\w.cell? ⟨g,2,none⟩=some (.int .u8 r)/\w.cell? ⟨g,3,none⟩=some (.int .u8 s):=by
 rcases h.2 with⟨_,h0⟩|⟨g,cap,cur,rfl,hbg,hg,hnc,hcm,hcs,htk⟩
 ·cases h0
 ·have hc:∀j x,(u8n [p,q,r,s])[j]? =some x->w.cell? ⟨g,j,none⟩=some x:=by
   intro j x hj;rw[<-htk,List.getElem?_take]at hj;split at hj
   ·simp only[World.cell?,hg];simpa using hj
   ·cases hj
  exact⟨g,cap,rfl,hnc,hbg,(Array.getElem?_eq_some_iff.1 hg).1,hc 0 _ rfl,hc 1 _ rfl,hc 2 _ rfl,hc 3 _ rfl⟩
theorem cell_two (w:World) (v v2:Value) (T:TypeId) (j:Nat) (u:Value) (h:[v,v2][j]? =some u):(w.alloc (.cells #[v,v2] T)).cell? ((⟨w.heap.size,0,none⟩:Addr).add j)=some u:=by
 rw[addr_add,World.cell?_alloc_mark];simpa using h
theorem cell_twoD (w:World) (v v2:Value) (T:TypeId) (j:Nat) (u:Value) (h:[v,v2][j]? =some u):((w.alloc (.cells #[v,v2] T)).drew).cell? ((⟨w.heap.size,0,none⟩:Addr).add j)=some u:=cell_two w v v2 T j u h
theorem or_two (p q:Nat) (hp:p<256) (hq:q<256):bits .or .u16 ((p:Int)*256) (q:Int)=((p*256+q:Nat):Int):=by
 have h:=u16_or_nat (p*256) q (by omega) (by omega);rw[nat_join 8 (p*256) q (by omega) (by omega)]at h;rw[show(p:Int)*256=((p*256:Nat):Int) by omega];exact h
theorem row_any (s:ByteArray) (last:Bool) (hs:s.size<=1048576) (w:World) (hE:EnvH w):Calls Tryz.prog 299 #[.string s,.bool last] w (RRow (Lz.rowS s.data.toList last) w):=by
 obtain⟨i0,hi,hz0,hz1,hz2⟩:=info_parts infoU16;by_cases hz:s.size=0
 ·have he:=isEmpty_of_size hz
  have HS:Hid (Lz.rowS s.data.toList last=some []):=by
   show _=_;unfold Lz.rowS;rw[if_pos (List.length_eq_zero_iff.1 (show s.data.toList.length=0 by rw[len_of_size];exact hz))]
  go_enter Tryz.func299,Tryz.ntmps299
  go_wp2
  go_ret2
  rw[HS.out];exact⟨Below.refl _ _,.slice none 0 0,w.heap.size,rfl,Nat.le_refl _,World.ownsRow_nil w w.heap.size 294 1⟩
 ·have he:=isEmpty_of_pos (s:=s) (by omega)
  have HS:Hid (Lz.rowS s.data.toList last=Lz.rowP last (Lz.splitC 58 s.data.toList)):=by
   show _=_;unfold Lz.rowS;rw[if_neg];intro h;exact hz (by rw[<-len_of_size,h];rfl)
  have cS:=Ih (Split_h s 58 (by omega) w hE);go_enter Tryz.func299,Tryz.ntmps299
  go_wp2_with fail
  refine(cS.out).mono ?_;rintro e w1 ⟨xs,rfl,hxs,hw1⟩
  have hlen:xs.length<=s.size+1:=by
   have h:=Lz.splitC_len 58 s.data.toList;rw[<-hxs.out,List.length_map,len_of_size]at h;omega
  have hsz:∀x,x∈xs->x.size<=s.size:=fun x hx=>piece_size hxs.out hx;have hb1:Below w.heap.size w w1:=by rw[hw1.out];exact(Below.refl _ w).alloc (Nat.le_refl _) _
  have hT:TextsAt w1 w.heap.size xs:=by
   refine⟨by rw[hw1.out];simp,fun j x hj=>?_⟩;rw[hw1.out];have:=World.cell?_alloc_mark w (xs.map Value.string).toArray 9 (0,0) j;rw[this]
   simp[hj]
  have HT:=Ih hT;have Hsz:=Ih hsz
  have hB:Hid (Lz.rowS s.data.toList last=Lz.rowP last (xs.map (·.data.toList))):=by
   show _=_;rw[HS.out,hxs.out]
  have hbs1:=hb1.size;clear cS hw1 hT hsz HS hxs he;have hst:=World.ownsRow_nil w1 w1.heap.size 294 1
  go_wp2_with fail
  go_loopw [6,22] (fun a i wr=>∃(j:Nat) (ls:List Nat),j<=xs.length/\i=.int .i64 j/\ls.length=j/\Hid (Lz.rowP last (xs.map (·.data.toList))=(Lz.rowP last ((xs.drop j).map (·.data.toList))).map (ls++·))/\wr.ownsRow w1.heap.size 294 1 a j (u16n ls)/\Below w1.heap.size w1 wr) (fun _ i _=>xs.length-(intOf i).toNat)
  case atStart=>exact⟨0,[],Nat.zero_le _,rfl,rfl,by show _=_;simp,hst,Below.refl _ w1⟩
  case round=>
   clear hst;obtain⟨j,ls,hj,rfl,hlj,hF,hown,hb⟩:=hrel;have hbw:=below_call hb1 hb;have hsz:=hb.size;have Hown:=Ih hown;by_cases hlt:j<xs.length
   ·obtain⟨x,hx⟩:∃x,xs[j]? =some x:=⟨_,List.getElem?_eq_getElem hlt⟩;have hcx:=(HT.out.below hb).cells _ _ hx;have hxz:=Hsz.out x (List.mem_of_getElem? hx)
    have hdrop:xs.drop j=x::xs.drop (j+1):=by
     rw[List.drop_eq_getElem_cons hlt];congr 1;have:=List.getElem?_eq_getElem hlt;rw[hx]at this;exact(Option.some.inj this).symm
    obtain⟨q,hq⟩:∃q,q=(last&&decide (j+1=xs.length)&&x.data.toList.contains 46):=⟨_,rfl⟩
    have hcons:Hid (Lz.rowP last ((xs.drop j).map (·.data.toList))=if q then(Lz.bytesP x.data.toList).map fun b=>[b.getD 0 0*256+b.getD 1 0,b.getD 2 0*256+b.getD 3 0]
      else match Lz.pieceP x.data.toList with
       | none=>none
       | some n=>(Lz.rowP last ((xs.drop (j+1)).map (·.data.toList))).map (n::·)):=by
     show _=_;rw[hdrop,List.map_cons,Lz.rowP]
     have:((xs.drop (j+1)).map (·.data.toList)).isEmpty=decide (j+1=xs.length):=by
      rw[Bool.eq_iff_iff,List.isEmpty_iff,List.map_eq_nil_iff,List.drop_eq_nil_iff,decide_eq_true_eq];omega
     rw[this,<-hq];rfl
    have Hq:=Ih hq;clear hx hdrop hown hq;obtain⟨cb,hcb⟩:∃cb,cb=Lib.contains x.data.toList [46]:=⟨_,rfl⟩;have cC:=fun W hW=>Contains_c x ⟨#[46]⟩ (by omega) W hW;rw[show Lib.contains x.data.toList (ByteArray.data ⟨#[46]⟩).toList=cb from hcb.symm]at cC;have CC:=Ih cC;have Hcb:=Ih hcb;clear cC hcb
    go_upto_region 8 with fail
    go_cut [38] (fun s38 wx=>s38=.bool q/\wr=wx)
    case first=>
     cases last
     ·have HQ:Hid (q=false):=by show _=_;rw[Hq.out];rfl
      go_wp2_with fail
      go_meet;exact⟨by rw[HQ.out],rfl⟩
     ·by_cases hjn:j+1=xs.length
      ·have hjb:((j:Int)==(xs.length:Int)-1)=true:=by simp;omega
       have HQ:Hid (q=cb):=by show _=_;rw[Hq.out,decide_eq_true hjn,Hcb.out,contains_one];rfl
       go_wp2_with fail
       refine(CC.out _ (hE.below hbw)).mono ?_;rintro e w' ⟨rfl,rfl⟩
       go_wp2_with fail
       go_meet;exact⟨by rw[HQ.out],rfl⟩
      ·have hjb:((j:Int)==(xs.length:Int)-1)=false:=by simp;omega
       have HQ:Hid (q=false):=by show _=_;rw[Hq.out,decide_eq_false hjn];simp
       go_wp2_with fail
       go_meet;exact⟨by rw[HQ.out],rfl⟩
    case rest=>
     obtain⟨rfl,rfl⟩:=hcut;clear CC Hcb Hq;cases q
     ·have hcons2:Hid (Lz.rowP last ((xs.drop j).map (·.data.toList))=match Lz.pieceP x.data.toList with
        | none=>none
        | some n=>(Lz.rowP last ((xs.drop (j+1)).map (·.data.toList))).map (n::·)):=by
       show _=_;rw[hcons.out];rfl
      clear hcons
      have HNo:Hid (Lz.pieceP x.data.toList=none->Lz.rowS s.data.toList last=none):=by
       show _->_;intro h;rw[hB.out,hF.out,hcons2.out,h];rfl
      go_wp2_with fail
      go_loop [12,72] (fun n k=>∃k' m:Nat,k'<=x.size/\n=.int .i64 m/\k=.int .i64 k'/\m<65536/\Hid (Lz.PieceAt x.data.toList k' m)) (fun _ k=>x.size-(intOf k).toNat)
      case atStart=>exact⟨0,0,Nat.zero_le _,rfl,rfl,by omega,Ih (Lz.pieceAt_zero _)⟩
      case round=>
       obtain⟨k,m,hk,rfl,rfl,hm,hP⟩:=hrel;by_cases hkx:k<x.size
       ·have hg:=get_of_lt (s:=x) hkx;have cH:=fun W=>Hex_any x[k] W;unfold RHex Lz.hexN Lz.hexB at cH;have hx16:=hexN_lt x[k];unfold Lz.hexN at hx16;have hstep:=fun d=>Lz.pieceAt_step (d:=d) hP.out hg;have hno:=fun h=>Lz.piece_none (List.mem_of_getElem? hg) h;generalize hxv:Lz.hexV x[k]=xv at cH hx16 hstep hno;have Hst:=Ih hstep;have Hno:=Ih hno;clear hg hxv hstep hno;cases xv with
        | none=>
          have HN:=Ih (HNo.out (Hno.out rfl))
          go_wp2_with fail
          refine(cH _).mono ?_;rintro e w' ⟨rfl,rfl⟩
          go_wp2
          go_ret2
          rw[HN.out];exact rrow_fail hbw
        | some d=>
          have hst2:=Ih (Hst.out d rfl);have hd16:d<16:=hx16
          have hand:bits .and .i64 ((m:Int)*16) 65535=((m*16%65536:Nat):Int):=by
           rw[show(m:Int)*16=((m*16:Nat):Int) by omega];exact i64_and16 _
          have hlt2:m*16%65536||| d<65536:=Nat.or_lt_two_pow (n:=16) (by omega) (by omega)
          have hor:bits .or .i64 ((m:Int)*16%65536) (d:Int)=((m*16%65536||| d:Nat):Int):=by
           rw[show(m:Int)*16%65536=((m*16%65536:Nat):Int) by omega];exact i64_or16 _ _ (by omega) (by omega)
          generalize m*16%65536||| d=z at hor hst2 hlt2
          go_wp2_with fail
          refine(cH _).mono ?_;rintro e w' ⟨rfl,rfl⟩
          go_wp2
          go_round
          case rel=>exact⟨k+1,_,by omega,rfl,by go_num,hlt2,hst2⟩
          case measure=>simp[intOf];omega
       ·have hkx2:k=x.size:=by omega
        have hPd:Hid (Lz.pieceP x.data.toList=if x.size=0\/4<x.size then none else some m):=by
         show _=_;have h:=hP.out;rw[hkx2,<-len_of_size]at h;rw[Lz.piece_done h,len_of_size];have:(x.data.toList=[])↔x.size=0:=by rw[<-len_of_size,List.length_eq_zero_iff]
         simp only[this]
        clear hP hkx2;by_cases hx0:x.size=0
        ·have he:=isEmpty_of_size hx0;have HN:=Ih (HNo.out (by rw[hPd.out,if_pos (Or.inl hx0)]))
         go_wp2
         go_ret2
         rw[HN.out];exact rrow_fail hbw
        ·have he:=isEmpty_of_pos (s:=x) (by omega);by_cases hx4:4<x.size
         ·have HN:=Ih (HNo.out (by rw[hPd.out,if_pos (Or.inr hx4)]))
          go_wp2
          go_ret2
          rw[HN.out];exact rrow_fail hbw
         ·have hF2:Hid (Lz.rowP last (xs.map (·.data.toList))=(Lz.rowP last ((xs.drop (j+1)).map (·.data.toList))).map ((ls++[m])++·)):=by
           show _=_;rw[hF.out,hcons2.out,hPd.out,if_neg (by omega)];simp only;cases Lz.rowP last ((xs.drop (j+1)).map (·.data.toList))<;>simp
          clear hPd hcons2 hF HNo
          go_wp2_with (at_builtin;refine wpList_append_own _ rfl (.tmp 105) (.tmp 108) 317 rfl w1.heap.size 294 i0 (.int .u16 0) 1 2 Tryz.underlying317 hi hz0 hz1 hz2 rfl (by decide) _ _ _ rfl (Hown.out.alloc _) ⟨wr.heap.size,0,none⟩ 1 1 [.int .u16 (m:Int)] rfl rfl (cell_one _ _ _) (by simp[Value.oneCell']) (by unfold maxLen;omega) (by omega) (by simp;omega) ?_)
          intro v' w4 hown' hgrow _;have hb4:Below w1.heap.size w1 w4:=Below.grown1 hb Hown.out hgrow hsz (Nat.le_refl _);rw[u16n_snoc]at hown';have Hown4:=Ih hown';clear hown' hgrow
          go_wp2
          go_roundw
          case rel=>exact⟨j+1,ls++[m],by omega,by go_num,by simp[hlj],hF2.out,Hown4.out,hb4⟩
          case measure=>simp[intOf];omega
     ·have hcons2:Hid (Lz.rowS s.data.toList last=(((Lz.bytesP x.data.toList).map fun b=>[b.getD 0 0*256+b.getD 1 0,b.getD 2 0*256+b.getD 3 0])).map (ls++·)):=by
       show _=_;rw[hB.out,hF.out,hcons.out];rfl
      clear hcons hF hB;have cB:=fun W hW=>bytes_any x (by omega) W hW;have hob:=fun l h=>(Lz.bytesP_ok (x:=x.data.toList) (l:=l) h).2;generalize Lz.bytesP x.data.toList=o at hcons2 cB hob;have Hob:=Ih hob;clear hob;have CB:=Ih cB;clear cB
      go_wp2_with fail
      refine(CB.out _ (hE.below hbw)).mono ?_;rintro e w2 ⟨hb2,hres⟩;have hbw2:=below_call hbw hb2;cases o with
      | none=>
        obtain⟨v,rfl,hfy⟩:=hres;have Hfy:=Ih hfy;obtain⟨p,u,rfl,_,_,_⟩:=hfy
        go_wp2
        go_ret2
        rw[hcons2.out];exact⟨hbw2,_,rfl,Hfy.out⟩
      | some l=>
        obtain⟨h4,v,base,rfl,hbase,hown2⟩:=hres;obtain⟨b0,b1,b2,b3,rfl⟩:=Lz.four_form h4;obtain⟨g,cap,rfl,hcap,hbg,hgl,hc0,hc1,hc2,hc3⟩:=own4 hown2;have hne:some g≠u6.ownBlock:=fun h=>by have:=(Hown.out.lt g h.symm).2;omega
        have hlt8:=Hob.out _ rfl;have hl0:=hlt8 b0 (by simp);have hl1:=hlt8 b1 (by simp);have hl2:=hlt8 b2 (by simp);have hl3:=hlt8 b3 (by simp);have hcp4:(4:Int)<=(cap:Int):=by omega
        obtain⟨z,hz'⟩:∃z:Nat,z=b0*256+b1:=⟨_,rfl⟩;obtain⟨y,hy'⟩:∃y:Nat,y=b2*256+b3:=⟨_,rfl⟩;have hor1:=or_two b0 b1 hl0 hl1;have hor2:=or_two b2 b3 hl2 hl3;rw[<-hz']at hor1;rw[<-hy']at hor2
        have hres:Hid (Lz.rowS s.data.toList last=some (ls++[z]++[y])):=by
         show _=_;rw[hcons2.out,hz',hy'];simp
        have Hown2:=Ih (own_below Hown.out hb2);have hbz2:=hbw2.size;have hb12:Below w1.heap.size w1 w2:=below_call hb hb2;have hsz2:=hb12.size;clear hlt8 Hob hown2 hz' hy' h4
        go_upto_region 12 with fail
        have hw0:IntKind.u16.wrap (b0:Int)=(b0:Int):=IntWalk.u16_in _ (by omega);have hw1:IntKind.u16.wrap (b1:Int)=(b1:Int):=IntWalk.u16_in _ (by omega);have hw2:IntKind.u16.wrap (b2:Int)=(b2:Int):=IntWalk.u16_in _ (by omega);have hw3:IntKind.u16.wrap (b3:Int)=(b3:Int):=IntWalk.u16_in _ (by omega);have hw4:IntKind.u16.wrap ((b0:Int)*256)=(b0:Int)*256:=IntWalk.u16_in _ (by omega);have hw5:IntKind.u16.wrap ((b2:Int)*256)=(b2:Int)*256:=IntWalk.u16_in _ (by omega)
        go_region_held3 (fun W=>W.cell? ⟨g,0,none⟩=some (.int .u8 b0)/\W.cell? ⟨g,1,none⟩=some (.int .u8 b1)/\W.cell? ⟨g,2,none⟩=some (.int .u8 b2)/\W.cell? ⟨g,3,none⟩=some (.int .u8 b3)) (first |go_keep|(refine⟨?_,?_,?_,?_⟩<;>exact(hgrow.cell_far _ (by simp;omega) hne).trans ((World.cell?_alloc_lt w2 _ ⟨g,_,none⟩ hgl).trans (by assumption)))) (first |((refine step_append_lies _ (by rfl) (.tmp 47) (.tmp 68) 317 (by rfl) w1.heap.size 294 i0 (.int .u16 0) 1 2 Tryz.underlying317 hi hz0 hz1 hz2 (by rfl) (by decide) u6 j (u16n ls) (by rfl) (by first |exact(Hown2.out.alloc _).drew|exact Hown2.out.drew.alloc _) ⟨w2.heap.size,0,none⟩ 2 2 [.int .u16 (z:Int),.int .u16 (y:Int)] (by rfl) (by rfl) (by first |exact cell_twoD w2 _ _ 294|exact cell_two w2.drew _ _ 294) (by simp[Value.oneCell']) (by omega) (by unfold maxLen;omega) (by omega) (by simp;omega) (w2.heap.size+1) (by simp) ?_;intro g' cap' w4 hown' hgrow hat hlg)))
        have hb4:Below w1.heap.size w1 w4:=((hb12.alloc hsz2 _).drew).grown hgrow (by simp;omega) (fun k hk=>(Hown2.out.lt k hk).1);have Hown4:=Ih hown';clear hown' hgrow
        go_wp2
        go_ret2
        rw[hres.out];refine⟨below_call hb1 hb4,_,w1.heap.size,rfl,hbs1,?_⟩;have h5:=Hown4.out;rw[show u16n ls++[.int .u16 (z:Int),.int .u16 (y:Int)]=u16n (ls++[z]++[y]) by simp[u16n]]at h5;rw[show(ls++[z]++[y]).length=j+2 by simp[hlj]];exact h5
   ·have hjl:j=xs.length:=by omega
    have HR:Hid (Lz.rowS s.data.toList last=some ls):=by
     show _=_;rw[hB.out,hF.out,hjl,List.drop_length]
     simp[Lz.rowP]
    have hlt':¬j<xs.length:=hlt;clear hlt hjl hown hF
    go_wp2
    go_ret2
    rw[HR.out];exact⟨hbw,_,w1.heap.size,rfl,hbs1,by rw[hlj];exact Hown.out⟩
end Go.Proofs.YtjhccadmmnjpeaaGreatDoor
