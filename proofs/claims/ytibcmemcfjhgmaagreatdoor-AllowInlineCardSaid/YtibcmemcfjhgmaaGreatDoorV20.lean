/-
  strings.IndexRune at a rune beyond 127 in a text of bytes below 128; strings.IndexAny and ContainsAny of any text, at such bytes.
-/
import Derived.Test.YtibcmemcfjhgmaaGreatDoorV16
import Derived.Test.YtibcmemcfjhgmaaGreatDoorV12
import Derived.Deep.AppendLies
import Derived.Deep.DrawnRows
import Derived.Lib.QuoteLoop
set_option maxHeartbeats 2000000
set_option maxRecDepth 1000000
namespace Lz
open Go
def pX (x:Bs) (k m:Nat):Prop:=(∀c∈x.take k,(iC c).isSome=true)/\(k<=4->(x.take k).foldlM xb 0=some m/\m<16^k)/\m<65536
theorem As (x:Bs):pX x 0 0:=⟨by simp,fun _=>⟨rfl,by simp⟩,by omega⟩
theorem zv {x:Bs} {k m d:Nat} {c:UInt8} (h:pX x k m) (hc:x[k]? =some c) (hd:iC c=some d):pX x (k+1) (m*16%65536||| d):=by
 obtain⟨h1,h2,h3⟩:=h;have Zw:=xZ c d hd;have Pr:m*16%65536||| d=m*16%65536+d:=nat_join 4 _ _ (by omega) Zw
 have gu:x.take (k+1)=x.take k++[c]:=by rw[List.take_add_one,hc];rfl
 rw[Pr];refine⟨fun y hy=>?_,fun hk=>?_,by omega⟩
 ·rw[gu]at hy;rcases List.mem_append.1 hy with hy|hy
  ·exact h1 y hy
  ·rw[List.mem_singleton]at hy;rw[hy,hd];rfl
 ·obtain⟨h4,h5⟩:=h2 (by omega);have hp:16^k<=16^3:=Nat.pow_le_pow_right (by omega) (by omega);rw[gu,List.foldlM_append,h4,Nat.mod_eq_of_lt (by omega)];refine⟨?_,by rw[Nat.pow_succ];omega⟩
  simp[xb,hd]
theorem Kz {x:Bs} {c:UInt8} (hc:c∈x) (hn:iC c=none) (n:Nat):x.foldlM xb n=none:=by
 obtain⟨a,b,rfl⟩:=List.append_of_mem hc;rw[List.foldlM_append];cases a.foldlM xb n with
 | none=>rfl
 | some m=>simp[xb,hn]
theorem Em {x:Bs} {c:UInt8} (hc:c∈x) (hn:iC c=none):gM x=none:=by
 unfold gM;split
 ·rfl
 ·exact Kz hc hn 0
theorem EA {x:Bs} {m:Nat} (h:pX x x.length m):gM x=if x=[]\/4<x.length then none else some m:=by
 unfold gM;split
 ·rfl
 ·rename_i hx;have:=(h.2.1 (by omega)).1;rw[List.take_length]at this;exact this
end Lz
namespace Go.Proofs.YtibcmemcfjhgmaaGreatDoor
open Go.RowKit
attribute [local go_sem ↓] Go.wp_at_zero Go.wp_at_succ
theorem J5 (n:Nat):bits .and .i64 (n:Int) 65535=((n%65536:Nat):Int):=by
 have abM:(BitVec.ofInt 64 65535).toNat=2^16-1:=by decide
 have key:(BitVec.ofInt 64 (n:Int)&&& BitVec.ofInt 64 65535).toNat=((n:Int)%((2^64:Nat):Int)).toNat%2^16:=by
  rw[BitVec.toNat_and,BitVec.toNat_ofInt,abM,Nat.and_two_pow_sub_one_eq_mod]
 show IntKind.i64.wrap ((BitVec.ofInt 64 (n:Int)&&& BitVec.ofInt 64 65535).toNat:Nat)=_;rw[key,IntKind.wrap_i64];omega
theorem LN (a b:Nat) (ha:a<65536) (hb:b<65536):bits .or .i64 (a:Int) (b:Int)=((a||| b:Nat):Int):=by
 have hx:a||| b<2^16:=Nat.or_lt_two_pow (by omega) (by omega)
 show IntKind.i64.wrap ((BitVec.ofInt 64 (a:Int)||| BitVec.ofInt 64 (b:Int)).toNat:Int)=_;rw[BitVec.toNat_or,ofInt_u64 a (by omega),ofInt_u64 b (by omega),IntKind.wrap_i64];omega
theorem Qk:(Tryz.prog.info? 324).map (fun i=>(i.zero,i.size,i.bytes))=some (some (.int .u16 0),1,2):=by kernel_rfl
def dE (l:List Nat):List Value:=l.map fun n:Nat=>Value.int .u16 (n:Int)
theorem Jt (l:List Nat) (n:Nat):dE l++[.int .u16 (n:Int)]=dE (l++[n]):=by simp[dE]
def X7 (o:Option (List Nat)) (w:World) (e:Ending) (w':World):Prop:=
 Below w.heap.size w w'/\match o with
  | some l=>∃v base,e=.returned (.tuple #[v,.nilIface])/\w.heap.size<=base/\w'.ownsRow base 324 1 v l.length (dE l)
  | none=>∃v,e=.returned (.tuple #[.slice none 0 0,v])/\dv w' 72 1 v
theorem rz {w wx:World} {s:ByteArray} {t:TypeId} {fr:Nat×Nat} (hb:Below w.heap.size w wx):
  X7 none w (.returned (.tuple #[.slice none 0 0,.iface 321 (.pointer (some ⟨wx.heap.size,0,none⟩))])) (wx.alloc (.cells #[.string s,.iface 39 (.int .i64 72)] t fr)):=
 ⟨hb.alloc hb.size _,_,rfl,fR rfl⟩
theorem Ey (s sub:ByteArray) (hs:s.size<=1073741824) (w:World) (hE:eU w):Calls Tryz.prog 331 #[.string s,.string sub] w fun e w'=>e=.returned (.bool (Lib.contains s.data.toList sub.data.toList))/\w=w':=by
 obtain⟨m,hm⟩:=hE.ml;exact(Tryz.strings_Contains s sub m w (by omega) hm).mono fun _ _ ⟨h1,h2⟩=>⟨h1,h2.symm⟩
theorem qu (c:UInt8):∀s:List UInt8,Lib.contains s [c]=s.contains c
 | []=>rfl
 | b::s=>by
   have ih:=qu c s;unfold Lib.contains at ih⊢;by_cases h:b=c
   ·rw[Lz.kD h,h];simp
   ·rw[Lz.jN h,List.contains_cons,<-ih];have h1:(c==b)=false:=by simpa using fun e=>h e.symm
    have h2:=Lib.index_ge s [c];rw[h1,Bool.false_or,Bool.eq_iff_iff,decide_eq_true_eq,decide_eq_true_eq];by_cases h3:Lib.index s [c]= -1
    ·rw[h3];simp
    ·rw[if_neg (by simpa using h3)];omega
theorem own4 {w:World} {base:Nat} {v:Value} {p q r s:Nat} (h:w.ownsRow base 5 1 v 4 (u8n [p,q,r,s])):
  ∃g cap,v=.slice (some ⟨g,0,none⟩) 4 cap/\4<=cap/\base<=g/\g<w.heap.size/\w.cell? ⟨g,0,none⟩=some (.int .u8 p)/\w.cell? ⟨g,1,none⟩=some (.int .u8 q)/\w.cell? ⟨g,2,none⟩=some (.int .u8 r)/\w.cell? ⟨g,3,none⟩=some (.int .u8 s):=by
 rcases h.2 with⟨_,h0⟩|⟨g,cap,dx,rfl,mu,hg,Uf,tj,iF,gu⟩
 ·cases h0
 ·have hc:∀j x,(u8n [p,q,r,s])[j]? =some x->w.cell? ⟨g,j,none⟩=some x:=by
   intro j x hj;rw[<-gu,List.getElem?_take]at hj;split at hj
   ·simp only[World.cell?,hg];simpa using hj
   ·cases hj
  exact⟨g,cap,rfl,Uf,mu,(Array.getElem?_eq_some_iff.1 hg).1,hc 0 _ rfl,hc 1 _ rfl,hc 2 _ rfl,hc 3 _ rfl⟩
theorem CG (w:World) (v v2:Value) (T:TypeId) (j:Nat) (u:Value) (h:[v,v2][j]? =some u):(w.alloc (.cells #[v,v2] T)).cell? ((⟨w.heap.size,0,none⟩:Addr).add j)=some u:=by
 rw[bD,World.cell?_alloc_mark];simpa using h
theorem JT (w:World) (v v2:Value) (T:TypeId) (j:Nat) (u:Value) (h:[v,v2][j]? =some u):((w.alloc (.cells #[v,v2] T)).drew).cell? ((⟨w.heap.size,0,none⟩:Addr).add j)=some u:=CG w v v2 T j u h
theorem Mm (p q:Nat) (hp:p<256) (hq:q<256):bits .or .u16 ((p:Int)*256) (q:Int)=((p*256+q:Nat):Int):=by
 have h:=u16_or_nat (p*256) q (by omega) (by omega);rw[nat_join 8 (p*256) q (by omega) (by omega)]at h;rw[show(p:Int)*256=((p*256:Nat):Int) by omega];exact h
theorem G4 (s:ByteArray) (last:Bool) (hs:s.size<=1048576) (w:World) (hE:eU w):Calls Tryz.prog 320 #[.string s,.bool last] w (X7 (Lz.gL s.data.toList last) w):=by
 obtain⟨i0,hi,eZ,d9,eo⟩:=info_parts Qk;by_cases hz:s.size=0
 ·have he:=aN hz
  have HS:Hid (Lz.gL s.data.toList last=some []):=by
   show _=_;unfold Lz.gL;rw[if_pos (List.length_eq_zero_iff.1 (show s.data.toList.length=0 by rw[ac];exact hz))]
  go_enter Tryz.func320,Tryz.ntmps320
  go_wp2
  go_ret2
  rw[HS.out];exact⟨Below.refl _ _,.slice none 0 0,w.heap.size,rfl,Nat.le_refl _,World.ownsRow_nil w w.heap.size 324 1⟩
 ·have he:=aG (s:=s) (by omega)
  have HS:Hid (Lz.gL s.data.toList last=Lz.je last (Lz.aD 58 s.data.toList)):=by
   show _=_;unfold Lz.gL;rw[if_neg];intro h;exact hz (by rw[<-ac,h];rfl)
  have cS:=Ih (zy s 58 (by omega) w hE);go_enter Tryz.func320,Tryz.ntmps320
  go_wp2_with fail
  refine(cS.out).mono ?_;rintro e w1 ⟨xs,rfl,mc,me⟩
  have aO:xs.length<=s.size+1:=by
   have h:=Lz.iR 58 s.data.toList;rw[<-mc.out,List.length_map,ac]at h;omega
  have fu:∀x,x∈xs->x.size<=s.size:=fun x hx=>lS mc.out hx;have av:Below w.heap.size w w1:=by rw[me.out];exact(Below.refl _ w).alloc (Nat.le_refl _) _
  have hT:fV w1 w.heap.size xs:=by
   refine⟨by rw[me.out];simp,fun j x hj=>?_⟩;rw[me.out];have:=World.cell?_alloc_mark w (xs.map Value.string).toArray 9 (0,0) j;rw[this]
   simp[hj]
  have HT:=Ih hT;have Sn:=Ih fu
  have hB:Hid (Lz.gL s.data.toList last=Lz.je last (xs.map (·.data.toList))):=by
   show _=_;rw[HS.out,mc.out]
  have Ss:=av.size;clear cS me hT fu HS mc he;have hst:=World.ownsRow_nil w1 w1.heap.size 324 1
  go_wp2_with fail
  go_loopw [6,22] (fun a i wr=>∃(j:Nat) (ls:List Nat),j<=xs.length/\i=.int .i64 j/\ls.length=j/\Hid (Lz.je last (xs.map (·.data.toList))=(Lz.je last ((xs.drop j).map (·.data.toList))).map (ls++·))/\wr.ownsRow w1.heap.size 324 1 a j (dE ls)/\Below w1.heap.size w1 wr) (fun _ i _=>xs.length-(intOf i).toNat)
  case atStart=>exact⟨0,[],Nat.zero_le _,rfl,rfl,by show _=_;simp,hst,Below.refl _ w1⟩
  case round=>
   clear hst;obtain⟨j,ls,hj,rfl,Ll,hF,ai,hb⟩:=hrel;have aC:=ae av hb;have fu:=hb.size;have bi:=Ih ai;by_cases aL:j<xs.length
   ·obtain⟨x,hx⟩:∃x,xs[j]? =some x:=⟨_,List.getElem?_eq_getElem aL⟩;have DO:=(HT.out.below hb).cells _ _ hx;have Py:=Sn.out x (List.mem_of_getElem? hx)
    have DE:xs.drop j=x::xs.drop (j+1):=by
     rw[List.drop_eq_getElem_cons aL];congr 1;have:=List.getElem?_eq_getElem aL;rw[hx]at this;exact(Option.some.inj this).symm
    obtain⟨q,hq⟩:∃q,q=(last&&decide (j+1=xs.length)&&x.data.toList.contains 46):=⟨_,rfl⟩
    have nB:Hid (Lz.je last ((xs.drop j).map (·.data.toList))=if q then(Lz.gJ x.data.toList).map fun b=>[b.getD 0 0*256+b.getD 1 0,b.getD 2 0*256+b.getD 3 0]
      else match Lz.gM x.data.toList with
       | none=>none
       | some n=>(Lz.je last ((xs.drop (j+1)).map (·.data.toList))).map (n::·)):=by
     show _=_;rw[DE,List.map_cons,Lz.je]
     have:((xs.drop (j+1)).map (·.data.toList)).isEmpty=decide (j+1=xs.length):=by
      rw[Bool.eq_iff_iff,List.isEmpty_iff,List.map_eq_nil_iff,List.drop_eq_nil_iff,decide_eq_true_eq];omega
     rw[this,<-hq];rfl
    have Hq:=Ih hq;clear hx DE ai hq;obtain⟨cb,OL⟩:∃cb,cb=Lib.contains x.data.toList [46]:=⟨_,rfl⟩;have cC:=fun W hW=>Ey x ⟨#[46]⟩ (by omega) W hW;rw[show Lib.contains x.data.toList (ByteArray.data ⟨#[46]⟩).toList=cb from OL.symm]at cC;have CC:=Ih cC;have Hcb:=Ih OL;clear cC OL
    go_upto_region 8 with fail
    go_cut [38] (fun s38 wx=>s38=.bool q/\wr=wx)
    case first=>
     cases last
     ·have HQ:Hid (q=false):=by show _=_;rw[Hq.out];rfl
      go_wp2_with fail
      go_meet;exact⟨by rw[HQ.out],rfl⟩
     ·by_cases xA:j+1=xs.length
      ·have hjb:((j:Int)==(xs.length:Int)-1)=true:=by simp;omega
       have HQ:Hid (q=cb):=by show _=_;rw[Hq.out,decide_eq_true xA,Hcb.out,qu];rfl
       go_wp2_with fail
       refine(CC.out _ (hE.below aC)).mono ?_;rintro e w' ⟨rfl,rfl⟩
       go_wp2_with fail
       go_meet;exact⟨by rw[HQ.out],rfl⟩
      ·have hjb:((j:Int)==(xs.length:Int)-1)=false:=by simp;omega
       have HQ:Hid (q=false):=by show _=_;rw[Hq.out,decide_eq_false xA];simp
       go_wp2_with fail
       go_meet;exact⟨by rw[HQ.out],rfl⟩
    case rest=>
     obtain⟨rfl,rfl⟩:=hcut;clear CC Hcb Hq;cases q
     ·have fP:Hid (Lz.je last ((xs.drop j).map (·.data.toList))=match Lz.gM x.data.toList with
        | none=>none
        | some n=>(Lz.je last ((xs.drop (j+1)).map (·.data.toList))).map (n::·)):=by
       show _=_;rw[nB.out];rfl
      clear nB
      have HNo:Hid (Lz.gM x.data.toList=none->Lz.gL s.data.toList last=none):=by
       show _->_;intro h;rw[hB.out,hF.out,fP.out,h];rfl
      go_wp2_with fail
      go_loop [12,72] (fun n k=>∃k' m:Nat,k'<=x.size/\n=.int .i64 m/\k=.int .i64 k'/\m<65536/\Hid (Lz.pX x.data.toList k' m)) (fun _ k=>x.size-(intOf k).toNat)
      case atStart=>exact⟨0,0,Nat.zero_le _,rfl,rfl,by omega,Ih (Lz.As _)⟩
      case round=>
       obtain⟨k,m,hk,rfl,rfl,hm,hP⟩:=hrel;by_cases hkx:k<x.size
       ·have hg:=aB (s:=x) hkx;have cH:=fun W=>lC x[k] W;unfold Ce Lz.iN Lz.oT at cH;have jh:=jB x[k];unfold Lz.iN at jh;have dB:=fun d=>Lz.zv (d:=d) hP.out hg;have nx:=fun h=>Lz.Em (List.mem_of_getElem? hg) h;generalize Gy:Lz.iC x[k]=xv at cH jh dB nx;have iA:=Ih dB;have SB:=Ih nx;clear hg Gy dB nx;cases xv with
        | none=>
          have HN:=Ih (HNo.out (SB.out rfl))
          go_wp2_with fail
          refine(cH _).mono ?_;rintro e w' ⟨rfl,rfl⟩
          go_wp2
          go_ret2
          rw[HN.out];exact rz aC
        | some d=>
          have Ok:=Ih (iA.out d rfl);have Zw:d<16:=jh
          have aac:bits .and .i64 ((m:Int)*16) 65535=((m*16%65536:Nat):Int):=by
           rw[show(m:Int)*16=((m*16:Nat):Int) by omega];exact J5 _
          have tk:m*16%65536||| d<65536:=Nat.or_lt_two_pow (n:=16) (by omega) (by omega)
          have Pr:bits .or .i64 ((m:Int)*16%65536) (d:Int)=((m*16%65536||| d:Nat):Int):=by
           rw[show(m:Int)*16%65536=((m*16%65536:Nat):Int) by omega];exact LN _ _ (by omega) (by omega)
          generalize m*16%65536||| d=z at Pr Ok tk
          go_wp2_with fail
          refine(cH _).mono ?_;rintro e w' ⟨rfl,rfl⟩
          go_wp2
          go_round
          case rel=>exact⟨k+1,_,by omega,rfl,by go_num,tk,Ok⟩
          case measure=>simp[intOf];omega
       ·have Z6:k=x.size:=by omega
        have XG:Hid (Lz.gM x.data.toList=if x.size=0\/4<x.size then none else some m):=by
         show _=_;have h:=hP.out;rw[Z6,<-ac]at h;rw[Lz.EA h,ac];have:(x.data.toList=[])↔x.size=0:=by rw[<-ac,List.length_eq_zero_iff]
         simp only[this]
        clear hP Z6;by_cases kN:x.size=0
        ·have he:=aN kN;have HN:=Ih (HNo.out (by rw[XG.out,if_pos (Or.inl kN)]))
         go_wp2
         go_ret2
         rw[HN.out];exact rz aC
        ·have he:=aG (s:=x) (by omega);by_cases wH:4<x.size
         ·have HN:=Ih (HNo.out (by rw[XG.out,if_pos (Or.inr wH)]))
          go_wp2
          go_ret2
          rw[HN.out];exact rz aC
         ·have ZA:Hid (Lz.je last (xs.map (·.data.toList))=(Lz.je last ((xs.drop (j+1)).map (·.data.toList))).map ((ls++[m])++·)):=by
           show _=_;rw[hF.out,fP.out,XG.out,if_neg (by omega)];simp only;cases Lz.je last ((xs.drop (j+1)).map (·.data.toList))<;>simp
          clear XG fP hF HNo
          go_wp2_with (at_builtin;refine wpList_append_own _ rfl (.tmp 105) (.tmp 108) 346 rfl w1.heap.size 324 i0 (.int .u16 0) 1 2 Tryz.underlying346 hi eZ d9 eo rfl (by decide) _ _ _ rfl (bi.out.alloc _) ⟨wr.heap.size,0,none⟩ 1 1 [.int .u16 (m:Int)] rfl rfl (aJ _ _ _) (by simp[Value.oneCell']) (by unfold maxLen;omega) (by omega) (by simp;omega) ?_)
          intro v' w4 aS bp _;have eB:Below w1.heap.size w1 w4:=Below.grown1 hb bi.out bp fu (Nat.le_refl _);rw[Jt]at aS;have iL:=Ih aS;clear aS bp
          go_wp2
          go_roundw
          case rel=>exact⟨j+1,ls++[m],by omega,by go_num,by simp[Ll],ZA.out,iL.out,eB⟩
          case measure=>simp[intOf];omega
     ·have fP:Hid (Lz.gL s.data.toList last=(((Lz.gJ x.data.toList).map fun b=>[b.getD 0 0*256+b.getD 1 0,b.getD 2 0*256+b.getD 3 0])).map (ls++·)):=by
       show _=_;rw[hB.out,hF.out,nB.out];rfl
      clear nB hF hB;have cB:=fun W hW=>JV x (by omega) W hW;have Ls:=fun l h=>(Lz.yA (x:=x.data.toList) (l:=l) h).2;generalize Lz.gJ x.data.toList=o at fP cB Ls;have Xx:=Ih Ls;clear Ls;have CB:=Ih cB;clear cB
      go_wp2_with fail
      refine(CB.out _ (hE.below aC)).mono ?_;rintro e w2 ⟨aE,dH⟩;have eC:=ae aC aE;cases o with
      | none=>
        obtain⟨v,rfl,rK⟩:=dH;have DS:=Ih rK;obtain⟨p,u,rfl,_,_,_⟩:=rK
        go_wp2
        go_ret2
        rw[fP.out];exact⟨eC,_,rfl,DS.out⟩
      | some l=>
        obtain⟨h4,v,base,rfl,fk,de⟩:=dH;obtain⟨b0,b1,b2,b3,rfl⟩:=Lz.yO h4;obtain⟨g,cap,rfl,jD,mu,hgl,lW,iE,sO,KU⟩:=own4 de;have du:some g≠u6.ownBlock:=fun h=>by have:=(bi.out.lt g h.symm).2;omega
        have Oz:=Xx.out _ rfl;have XV:=Oz b0 (by simp);have XQ:=Oz b1 (by simp);have AP:=Oz b2 (by simp);have hl3:=Oz b3 (by simp);have adb:(4:Int)<=(cap:Int):=by omega
        obtain⟨z,hz'⟩:∃z:Nat,z=b0*256+b1:=⟨_,rfl⟩;obtain⟨y,hy'⟩:∃y:Nat,y=b2*256+b3:=⟨_,rfl⟩;have abV:=Mm b0 b1 XV XQ;have acb:=Mm b2 b3 AP hl3;rw[<-hz']at abV;rw[<-hy']at acb
        have dH:Hid (Lz.gL s.data.toList last=some (ls++[z]++[y])):=by
         show _=_;rw[fP.out,hz',hy'];simp
        have bF:=Ih (dh bi.out aE);have acP:=eC.size;have nC:Below w1.heap.size w1 w2:=ae hb aE;have ns:=nC.size;clear Oz Xx de hz' hy' h4
        go_upto_region 12 with fail
        have hw0:IntKind.u16.wrap (b0:Int)=(b0:Int):=IntWalk.u16_in _ (by omega);have me:IntKind.u16.wrap (b1:Int)=(b1:Int):=IntWalk.u16_in _ (by omega);have DV:IntKind.u16.wrap (b2:Int)=(b2:Int):=IntWalk.u16_in _ (by omega);have hw3:IntKind.u16.wrap (b3:Int)=(b3:Int):=IntWalk.u16_in _ (by omega);have hw4:IntKind.u16.wrap ((b0:Int)*256)=(b0:Int)*256:=IntWalk.u16_in _ (by omega);have hw5:IntKind.u16.wrap ((b2:Int)*256)=(b2:Int)*256:=IntWalk.u16_in _ (by omega)
        go_region_held3 (fun W=>W.cell? ⟨g,0,none⟩=some (.int .u8 b0)/\W.cell? ⟨g,1,none⟩=some (.int .u8 b1)/\W.cell? ⟨g,2,none⟩=some (.int .u8 b2)/\W.cell? ⟨g,3,none⟩=some (.int .u8 b3)) (first |go_keep|(refine⟨?_,?_,?_,?_⟩<;>exact(bp.cell_far _ (by simp;omega) du).trans ((World.cell?_alloc_lt w2 _ ⟨g,_,none⟩ hgl).trans (by assumption)))) (first |((refine step_append_lies _ (by rfl) (.tmp 47) (.tmp 68) 346 (by rfl) w1.heap.size 324 i0 (.int .u16 0) 1 2 Tryz.underlying346 hi eZ d9 eo (by rfl) (by decide) u6 j (dE ls) (by rfl) (by first |exact(bF.out.alloc _).drew|exact bF.out.drew.alloc _) ⟨w2.heap.size,0,none⟩ 2 2 [.int .u16 (z:Int),.int .u16 (y:Int)] (by rfl) (by rfl) (by first |exact JT w2 _ _ 324|exact CG w2.drew _ _ 324) (by simp[Value.oneCell']) (by omega) (by unfold maxLen;omega) (by omega) (by simp;omega) (w2.heap.size+1) (by simp) ?_;intro g' Wt w4 aS bp wJ hlg)))
        have eB:Below w1.heap.size w1 w4:=((nC.alloc ns _).drew).grown bp (by simp;omega) (fun k hk=>(bF.out.lt k hk).1);have iL:=Ih aS;clear aS bp
        go_wp2
        go_ret2
        rw[dH.out];refine⟨ae av eB,_,w1.heap.size,rfl,Ss,?_⟩;have h5:=iL.out;rw[show dE ls++[.int .u16 (z:Int),.int .u16 (y:Int)]=dE (ls++[z]++[y]) by simp[dE]]at h5;rw[show(ls++[z]++[y]).length=j+2 by simp[Ll]];exact h5
   ·have mq:j=xs.length:=by omega
    have HR:Hid (Lz.gL s.data.toList last=some ls):=by
     show _=_;rw[hB.out,hF.out,mq,List.drop_length]
     simp[Lz.je]
    have O6:¬j<xs.length:=aL;clear aL mq ai hF
    go_wp2
    go_ret2
    rw[HR.out];exact⟨aC,_,w1.heap.size,rfl,Ss,by rw[Ll];exact bi.out⟩
def SlU (w:World) (v:Value) (l:List Nat):Prop:=
 ∃a c,v=.slice a l.length c/\l.length<=1000000/\∀(j:Nat) (b:Nat),l[j]? =some b->∃B off,a=some ⟨B,off,none⟩/\B<w.heap.size/\w.cell? ⟨B,off+j,none⟩=some (.int .u16 (b:Int))
theorem Ti {n:Nat} (h:n<65536):(Lz.gW n).length<=4:=Lz.uC 3 n (by simpa using h)
theorem Lx (v:Value) (l:List Nat) (w:World) (hE:eU w) (hl:SlU w v l) (aL:∀n∈l,n<65536):Calls Tryz.prog 322 #[v] w (dX (Lz.bW l) w):=by
 obtain⟨i0,hi,eZ,d9,eo⟩:=info_parts Hw;obtain⟨a,c,rfl,hl9,aW⟩:=hl;have Hc:=Ih aW;have ZG:=Ih aL;clear aW aL;have h0:=World.ownsRow_nil w w.heap.size 9 1;go_enter Tryz.func322,Tryz.ntmps322
 go_wp2
 go_loopw [3,8] (fun a i wr=>∃(j:Nat) (xs:List ByteArray),j<=l.length/\i=.int .i64 j/\Hid (xs.map (·.data.toList)=(l.take j).map Lz.gW)/\wr.ownsRow w.heap.size 9 1 a j (xs.map Value.string)/\Below w.heap.size w wr) (fun _ i _=>l.length-(intOf i).toNat)
 case atStart=>exact⟨0,[],Nat.zero_le _,rfl,Ih rfl,h0,Below.refl _ w⟩
 case round=>
  clear h0;obtain⟨j,xs,hj,rfl,mc,ai,hb⟩:=hrel;have fu:=hb.size;have bi:=Ih ai;by_cases aL:j<l.length
  ·have hg:l[j]? =some l[j]:=List.getElem?_eq_getElem aL;obtain⟨B,off,rfl,hBl,kL⟩:=Hc.out j l[j] hg;have aax:wr.cell? ⟨B,off+j,none⟩=some (.int .u16 l[j]):=by rw[hb.cell (p:=⟨B,off+j,none⟩) hBl];exact kL
   have gu:l.take (j+1)=l.take j++[l[j]]:=by rw[List.take_add_one,hg];rfl
   have hn:=ZG.out l[j] (List.getElem_mem aL);generalize l[j]=n at *;have Wp:=Ih gu;clear gu hg kL ai;have wN:(0:Int)<=(n:Int):=by omega
   have VR:IntKind.u64.wrap (n:Int)=(n:Int):=wrap64 (by omega) (by omega)
   go_wp2_with fail
   refine(xo n (by omega) _ (hE.below hb).db16).mono ?_;rintro e w1 ⟨t,rfl,ht,av⟩;have ir:=Ih (dh bi.out av);have aE:Below w.heap.size w w1:=ae hb av;have ns:=aE.size;have hst:xs.map Value.string++[Value.string t]=(xs++[t]).map Value.string:=by simp
   have iA:=Ih hst
   have VZ:Hid ((xs++[t]).map (·.data.toList)=(l.take (j+1)).map Lz.gW):=by
    show _=_;rw[Wp.out,List.map_append,List.map_append,mc.out,List.map_singleton,List.map_singleton,ht.out,Lz.Ka]
   clear hst Wp
   go_wp2_with (at_builtin;refine wpList_append_own _ rfl (.tmp 12) (.tmp 16) 22 rfl w.heap.size 9 i0 (.string ⟨#[]⟩) 1 16 Tryz.underlying22 hi eZ d9 eo rfl (by decide) _ _ _ rfl (ir.out.alloc _) ⟨w1.heap.size,0,none⟩ 1 1 [.string t] rfl rfl (aJ _ _ _) (by simp[Value.oneCell']) (by unfold maxLen;omega) (by omega) (by simp;omega) ?_)
   intro v' w3 aS bp _;have bj:=Below.grown1 aE ir.out bp ns (Nat.le_refl _);rw[iA.out]at aS;have dZ:=Ih aS;clear aS bp
   go_wp2
   go_roundw
   case rel=>exact⟨j+1,xs++[t],by omega,by go_num,VZ.out,dZ.out,bj⟩
   case measure=>simp[intOf];omega
  ·have mq:j=l.length:=by omega
   have Ll:¬j<l.length:=aL;have HD:Hid (xs.map (·.data.toList)=l.map Lz.gW):=by show _=_;rw[mc.out,mq,List.take_length]
   have DH:xs.length=j:=by have:=ai.1;simpa using this
   by_cases h1:j=0
   ·obtain⟨a0,c0,rfl⟩:∃a c,u3=.slice a 0 c:=by
     rw[h1]at ai;rcases ai.2 with⟨h,_⟩|⟨g,cap,dx,h,_⟩
     ·exact⟨_,_,h⟩
     ·exact⟨_,_,h⟩
    have HL:Hid (Lz.bW l=[]):=by
     show _=_;rw[List.length_eq_zero_iff.1 (show l.length=0 by omega)];rfl
    clear ai bi DH mq aL mc h1
    go_wp2_with fail
    with_reducible refine(Vf a0 c0 ⟨#[58]⟩ _).mono ?_
    rintro e w1 ⟨u,rfl,hu,av⟩
    go_wp2
    go_ret;exact⟨u,rfl,Ih (by rw[hu.out,HL.out]),ae hb av⟩
   ·obtain⟨b,cap,rfl,jD,hT⟩:=xK ai (by omega)
    have Z1:∀x,x∈xs->x.size<=4:=by
     intro x hx;have h1:x.data.toList∈l.map Lz.gW:=by rw[<-HD.out];exact List.mem_map_of_mem hx
     obtain⟨n,hn,hc⟩:=List.mem_map.1 h1;rw[<-ac,<-hc];exact Ti (ZG.out n hn)
    have HX:=Ih Z1;have HT:=Ih hT;have V6:=Ih jD;have hxn:Hid (xs.length<=1000000):=by show _<=_;omega
    clear Z1 hT ai bi DH mq jD aL mc
    go_wp2_with fail
    with_reducible refine(NT b cap xs ⟨#[58]⟩ _ HT.out V6.out hxn.out 4 (by omega) HX.out (by decide)).mono ?_
    rintro e w1 ⟨u,rfl,hu,av⟩
    go_wp2
    go_ret;refine⟨u,rfl,Ih ?_,ae hb av⟩;rw[hu.out,HD.out];rfl
attribute [local go_sem ↓] Go.wp_at_zero Go.wp_at_succ
theorem i4:(Tryz.prog.info? 326).map (·.size)=some 8:=by kernel_rfl
theorem qF:Tryz.prog.arrayLen 326=8:=by simp[Program.arrayLen,Tryz.underlying326]
theorem Bt (B t:Nat) (ht:t<=8):∃a,(∀W,(Instr.sliceAt 326 (.pointer (some ⟨B,0,none⟩)) (some (.int .i64 (t:Int))) none none).run Tryz.prog W=.ok (.slice a (8-t) (8-t)) W)/\(t<8->a=some ⟨B,t,none⟩):=by
 by_cases h:t=8
 ·subst h;refine⟨some ⟨B,0,none⟩,fun W=>?_,fun h=>absurd h (by omega)⟩;rw[run_sliceAt_array_l W 326 ⟨B,0,none⟩ (by simp[Program.arrayLen,Program.elem,Tryz.underlying326]) .i64 ((8:Nat):Int) (by omega) (by rw[qF];omega)];go_simp
 ·refine⟨some ⟨B,t,none⟩,fun W=>?_,fun _=>rfl⟩;rw[run_sliceAt_array_l W 326 ⟨B,0,none⟩ (by simp[Program.arrayLen,Program.elem,Tryz.underlying326]) .i64 (t:Int) (by omega) (by rw[qF];omega)];go_simp;intro h;omega
theorem U5 (B t:Nat) (ht:t<=8) (W:World):(Instr.sliceAt 326 (.pointer (some ⟨B,0,none⟩)) none (some (.int .i64 (t:Int))) none).run Tryz.prog W=.ok (.slice (some ⟨B,0,none⟩) t 8) W:=by
 rw[run_sliceAt_array_h W 326 ⟨B,0,none⟩ (by simp[Program.arrayLen,Program.elem,Tryz.underlying326]) .i64 (t:Int) (by omega) (by rw[qF];omega)];go_simp
theorem mV (l:List Nat) (h:∀n∈l,n<65536) (h8:l.length<=8):(Lz.bW l).length<=40:=by
 have hj:=Bd [58] 4 (l.map Lz.gW) (by
  intro x hx;obtain⟨n,hn,rfl⟩:=List.mem_map.1 hx;exact Ti (h n hn))
 rw[qE,List.length_map]at hj;unfold Lz.bW
 simp at hj;omega
theorem M0 (l:List Nat) (h8:l.length=8) (aL:∀n∈l,n<65536) (w:World) (hE:eU w):Calls Tryz.prog 295 #[EJ l] w (dX (Lz.eN l) w):=by
 have cR:=fun W=>PU l h8 W;unfold EJ at cR⊢;obtain⟨cs,iF⟩:∃cs,cs=(l.map fun n:Nat=>Value.int .u16 (n:Int)).toArray:=⟨_,rfl⟩;rw[<-iF]at cR⊢;obtain⟨w1,me⟩:∃w1,w1=w.alloc (.cells cs 326):=⟨_,rfl⟩;have hr:w1.heap[w.heap.size]? =some (.cells cs 326 (0,0)):=by rw[me];exact heap_alloc_new w _
 have hc:∀j x,l[j]? =some x->w1.cell? ⟨w.heap.size,j,none⟩=some (.int .u16 (x:Nat)):=by
  intro j x hj;rw[me,World.cell?_alloc_mark,iF]
  simp[hj]
 have DD:w.heap.size<w1.heap.size:=by rw[me];simp
 have av:Below w.heap.size w w1:=by rw[me];exact(Below.refl _ w).alloc (Nat.le_refl _) _
 have hcz:(Tryz.prog.info? 326).map (·.size)=some cs.size:=by rw[i4,iF];simp[h8]
 have K8:∀a n k (W:World),Below w1.heap.size w1 W->(0<n->a=some ⟨w.heap.size,k,none⟩)->k+n<=8->∀c,SlU W (.slice a n c) ((l.drop k).take n):=by
  intro a n k W hW ha hk c;have Px:((l.drop k).take n).length=n:=by simp;omega
  refine⟨a,c,by rw[Px],by rw[Px];omega,fun j b hj=>?_⟩;have xA:j<n:=by have:=(List.getElem?_eq_some_iff.1 hj).1;omega
  rw[List.getElem?_take,if_pos xA,List.getElem?_drop]at hj;exact⟨_,_,ha (by omega),Nat.lt_of_lt_of_le DD hW.size,by rw[hW.cell (p:=⟨w.heap.size,k+j,none⟩) DD];exact hc _ _ hj⟩
 have cT:∀a n k (W:World),Below w1.heap.size w1 W->(0<n->a=some ⟨w.heap.size,k,none⟩)->k+n<=8->∀c,Calls Tryz.prog 322 #[.slice a n c] W (dX (Lz.bW ((l.drop k).take n)) W):=
  fun a n k W hW ha hk c=>Lx _ _ W (hE.below (ae av hW)) (K8 a n k W hW ha hk c) (fun x hx=>aL x (List.mem_of_mem_drop (List.mem_of_mem_take hx)))
 obtain⟨f,hf⟩:∃f,f=(Lz.gV 0 l (0,0)).1:=⟨_,rfl⟩;obtain⟨t,ht⟩:∃t,t=(Lz.gV 0 l (0,0)).2:=⟨_,rfl⟩;have K9:=Lz.Ix l
 have Pm:f<=8/\t<=8:=by
  rw[hf,ht];rcases K9 with h|⟨h1,h2,_⟩
  ·rw[h];simp
  ·omega
 have HT:Hid (Lz.eN l=if f=t then Lz.bW l else Lz.bW (l.take f)++[58,58]++Lz.bW (l.drop t)):=by show _=_;rw[hf,ht];rfl
 unfold X2 at cR;rw[<-hf,<-ht]at cR;have CR:=Ih cR;have CT:=Ih cT;have Hr:=Ih hr;have H8:=Ih h8;have ZG:=Ih aL;clear cR cT hr h8 K8 hc hf ht K9 aL iF;have Hcz:=Ih hcz;clear hcz;obtain⟨hf8,ht8⟩:=Pm;go_enter Tryz.func295,Tryz.ntmps295
 go_upto_region 1 with fail
 rw[<-me];clear me
 go_wp2_with (refine wpList_load_row rfl 326 _ rfl w.heap.size rfl 326 _ (0,0) _ Hr.out Tryz.underlying326 rfl Hcz.out ?_)
 with_reducible refine(CR.out _).mono ?_
 rintro e w2 ⟨rfl,aE⟩;have eC:=ae av aE;by_cases Pm:f=t
 ·have acf:((f:Int)==(t:Int))=true:=by rw[Pm];simp
  have nt:Hid (Lz.eN l=Lz.bW l):=by show _=_;rw[HT.out,if_pos Pm]
  have dY:∀W,(Instr.sliceAt 326 (.pointer (some ⟨w.heap.size,0,none⟩)) none none none).run Tryz.prog W=.ok (.slice (some ⟨w.heap.size,0,none⟩) 8 8) W:=fun W=>by
   rw[run_sliceAt_array_all W 326 ⟨w.heap.size,0,none⟩ (by simp[Program.arrayLen,Program.elem,Tryz.underlying326])];rw[qF];go_simp
  have c8:=CT.out (some ⟨w.heap.size,0,none⟩) 8 0 w2 aE (fun _=>rfl) (by omega) 8;rw[List.drop_zero,List.take_of_length_le (by rw[H8.out];exact Nat.le_refl _),<-nt.out]at c8;have C8:=Ih c8;clear c8 CT CR Pm HT nt
  go_wp2_with fail
  with_reducible refine C8.out.mono ?_
  rintro e w3 ⟨u,rfl,hu,bj⟩
  go_wp2
  go_ret;exact⟨u,rfl,hu,ae eC bj⟩
 ·have acf:((f:Int)==(t:Int))=false:=beq_eq_false_iff_ne.2 (by omega);have nt:Hid (Lz.eN l=Lz.bW (l.take f)++[58,58]++Lz.bW (l.drop t)):=by show _=_;rw[HT.out,if_neg Pm]
  have hto:=U5 w.heap.size f hf8;obtain⟨a2,mo,ti⟩:=Bt w.heap.size t ht8;have c1:=fun W hW=>CT.out (some ⟨w.heap.size,0,none⟩) f 0 W hW (fun _=>rfl) (by omega) 8;have c2:=fun W hW=>CT.out a2 (8-t) t W hW (fun h=>ti (by omega)) (by omega) (8-t);rw[List.drop_zero]at c1;rw[List.take_of_length_le (l:=l.drop t) (by rw[List.length_drop,H8.out];exact Nat.le_refl _)]at c2;have d9:=mV (l.take f) (fun n hn=>ZG.out n (List.mem_of_mem_take hn)) (by simp;omega);have eo:=mV (l.drop t) (fun n hn=>ZG.out n (List.mem_of_mem_drop hn)) (by rw[List.length_drop,H8.out];omega);have C1:=Ih c1;have C2:=Ih c2;clear c1 c2 CT CR Pm HT ti
  go_upto_region 4 with fail
  go_region_with (first |(go_at_call 322;(with_reducible refine(C1.out _ aE.drew).mono ?_);rintro e w3 ⟨u1,rfl,tP,bj⟩;have tM:u1.size<=40:=(by rw[<-ac,tP.out];exact d9);have cf:¬(9223372036854775807<u1.size+2):=(by omega))|(go_at_call 322;(with_reducible refine(C2.out _ (ae aE.drew bj)).mono ?_);rintro e w4 ⟨u2,rfl,qG,eB⟩;have TW:u2.size<=40:=(by rw[<-ac,qG.out];exact eo);have hk4:¬(9223372036854775807<u1.size+2+u2.size):=(by omega)))
  go_wp2
  go_ret;refine⟨_,rfl,Ih ?_,ae (ae eC.drew bj) eB⟩;rw[hX,hX,tP.out,qG.out,nt.out]
end Go.Proofs.YtibcmemcfjhgmaaGreatDoor
namespace Lz
open Go
theorem BV (last:Bool):∀(ls:List Bs) (l:List Nat),je last ls=some l->l.length<=ls.length+1
 | [],l,h=>by simp[je]at h;simp[h]
 | x::r,l,h=>by
   rw[je]at h;split at h
   ·cases hb:gJ x with
    | none=>rw[hb]at h;cases h
    | some b=>rw[hb]at h;injection h with h;rw[<-h];simp
   ·cases hp:gM x with
    | none=>rw[hp]at h;cases h
    | some v=>
      rw[hp]at h;simp only at h;cases hr:je last r with
      | none=>rw[hr]at h;cases h
      | some m=>
        rw[hr]at h;injection h with h
        have:=BV last r m hr;rw[<-h];simp;omega
theorem Bi {s:Bs} {last:Bool} {l:List Nat} (h:gL s last=some l):l.length<=s.length+2:=by
 unfold gL at h;split at h
 ·injection h with h;rw[<-h];simp
 ·have h1:=BV _ _ _ h;have h2:=iR 58 s;omega
end Lz
namespace Go.Proofs.YtibcmemcfjhgmaaGreatDoor
open Go.RowKit
def z8:Array Value:= #[.int .u16 0,.int .u16 0,.int .u16 0,.int .u16 0,.int .u16 0,.int .u16 0,.int .u16 0,.int .u16 0]
theorem In:(Tryz.prog.info? 324).map (·.size)=some 1:=by kernel_rfl
def Vg (o:Option (List Nat)) (w:World) (e:Ending) (w':World):Prop:=
 Below w.heap.size w w'/\match o with
  | some a=>e=.returned (.tuple #[EJ a,.nilIface])
  | none=>∃v,e=.returned (.tuple #[.agg z8,v])/\dv w' 72 1 v
theorem Iw {w:World} {base:Nat} {v:Value} {l:List Nat} (h:w.ownsRow base 324 1 v l.length (dE l)):
  ∃a c,v=.slice a l.length c/\(0<l.length->∃g,a=some ⟨g,0,none⟩/\base<=g/\∀j u,(dE l)[j]? =some u->w.cell? ⟨g,j,none⟩=some u):=by
 rcases h.2 with⟨rfl,h0⟩|⟨g,cap,dx,rfl,mu,hg,Uf,tj,iF,gu⟩
 ·exact⟨none,0,by rw[h0],fun h=>by omega⟩
 ·refine⟨some ⟨g,0,none⟩,cap,rfl,fun _=>⟨g,rfl,mu,fun j u hj=>?_⟩⟩;rw[<-gu,List.getElem?_take]at hj;split at hj
  ·simp only[World.cell?,hg];simpa using hj
  ·cases hj
theorem Dh (w:World) (R g j:Nat) (cs:Array Value) (h:g≠R):(w.setRow R cs).cell? ⟨g,j,none⟩=w.cell? ⟨g,j,none⟩:=by
 have:=setRow_other w R g cs h;simp only[World.cell?];rw[this]
theorem l4 {P:Program} {w:World} {ops:Array Oper} {rest:List Oper} {o:Oper} {a:Act} {Q:Exit->Act->World->Prop} (Le:o.guard=none) (d s:Operand) (dT sT:TypeId)
  (ho:o.op=.call {callee:=.builtin .copy,args:= #[d,s],argTypes:= #[dT,sT]}) (elem:TypeId) (hu:P.underlying dT=some (.slice elem)) (fu:(P.info? elem).map (·.size)=some 1)
  (dp sp:Option Addr) (RU Xg Sy Wg:Nat) (hd:a.eval d=.slice dp RU Xg) (hs:a.eval s=.slice sp Sy Wg)
  (g off:Nat) (dx:List Value) (t:TypeId) (hg:w.heap[g]? =some (.cells dx.toArray t (0,0))) (cs:List Value) (hn:cs.length=Nat.min Sy RU)
  (AG:0<cs.length->dp=some ⟨g,off,none⟩/\∃ad,sp=some ad/\∀j v,cs[j]? =some v->w.cell? (ad.add j)=some v)
  (acd:off+cs.length<=dx.length) (h1:∀v∈cs,v.oneCell'=true)
  (h:wpList P ops Q rest (a.put o.dst (goInt cs.length)) (w.setRow g (splice dx off cs).toArray)):wpList P ops Q (o::rest) a w:=by
 by_cases h0:cs.length=0
 ·obtain rfl:cs=[]:=List.eq_nil_of_length_eq_zero h0;refine wpList_copy_nothing Le d s dT sT ho elem hu fu dp sp RU Xg Sy Wg hd hs hn.symm ?_;have e:splice dx off []=dx:=by simp[splice]
  rw[e,setRow_self w g dx.toArray t (0,0) hg]at h;exact h
 ·obtain⟨rfl,ad,rfl,wo⟩:=AG (by omega);refine wpList_copy_own Le d s dT sT ho elem hu fu g off RU Xg ad Sy Wg hd hs dx.toArray t hg cs hn wo (by simpa using acd) h1 ?_;have e:(dx.toArray.toList.take off++(cs++dx.toArray.toList.drop (off+cs.length))).toArray=(splice dx off cs).toArray:=by simp[splice]
  rw[e];exact h
theorem tY:z8.all (·.oneCell')=true:=by simp[z8,Value.oneCell']
theorem iS {ops:Array Oper} {rest:List Oper} {o:Oper} {a:Act} {w:World} {Q:Exit->Act->World->Prop} (Le:o.guard=none) (x y:Operand) (ho:o.op=.store 326 x y)
  (g:Nat) (hx:a.eval x=.pointer (some ⟨g,0,none⟩)) (cells:Array Value) (h8:cells.size=8) (h1:cells.all (·.oneCell')=true) (hy:a.eval y=.agg cells)
  (old:Array Value) (hg:w.heap[g]? =some (.cells old 326 (0,0))) (WW:old.size=8)
  (hk:wpList Tryz.prog ops Q rest (a.put o.dst undef) (w.setRow g cells)):wpList Tryz.prog ops Q (o::rest) a w:=
 wpList_store_row Le 326 x y ho g cells hx hy 326 old hg (by rw[i4,h8]) (WW.trans h8.symm) h1 hk
theorem dv.setRow {w:World} {e:Int} {R:Nat} {t:TypeId} {fr:Nat×Nat} (hr:w.heap[R]? =some (.cells z8 t fr)) (cs:Array Value):∀{d:Nat} {v:Value},dv w e d v->dv (w.setRow R cs) e d v
 | 0,_,h=>h
 | d+1,v,⟨p,u,h1,h2,h3,h4⟩=>by
   refine⟨p,u,h1,by simpa [World.setRow]using h2,?_,dv.setRow hr cs h4⟩
   have du:p≠R:=by
    rintro rfl;obtain⟨t0,x0,hi⟩:=h4.iface;have:w.cell? ⟨p,1,none⟩=some (.int .u16 0):=by simp only[World.cell?,hr];rfl
    rw[h3,hi]at this;cases this
   have:=setRow_other w R p cs du;simp only[World.cell?]at h3⊢;rw[this];exact h3
theorem ry {w wx:World} {v:Value} (hb:Below w.heap.size w wx) (hr:wx.heap[w.heap.size]? =some (.cells z8 326 (0,0))) (hf:dv wx 72 1 v):Vg none w (.returned (.tuple #[.agg z8,v])) (wx.setRow w.heap.size z8):=
 ⟨below_setRow hb (Nat.le_refl _) _,_,rfl,hf.setRow hr _⟩
theorem CL {w wx:World} {s:ByteArray} {t:TypeId} {fr:Nat×Nat} (hb:Below w.heap.size w wx) (aL:w.heap.size<wx.heap.size) (hr:wx.heap[w.heap.size]? =some (.cells z8 326 (0,0))):
  Vg none w (.returned (.tuple #[.agg z8,.iface 321 (.pointer (some ⟨wx.heap.size,0,none⟩))])) ((wx.alloc (.cells #[.string s,.iface 39 (.int .i64 72)] t fr)).setRow w.heap.size z8):=
 ry (hb.alloc hb.size _) (by rw[heap_alloc_old _ _ aL];exact hr) (fR rfl)
def Q3 (sh:Bool):Option (List Nat)->Option (List Nat)->Option (List Nat)
 | some x,some y=>if(if sh then decide (8<=x.length+y.length)else !(x.length+y.length==8))then none else some (x++List.replicate (8-x.length-y.length) 0++y)
 | _,_=>none
theorem Rl (s:List UInt8):Lz.jw s=if(!(Lib.cut s [58,58]).2.2&&s.isEmpty)||Lib.hasPrefix (Lib.cut s [58,58]).2.1 [58]then none else Q3 (Lib.cut s [58,58]).2.2 (Lz.gL (Lib.cut s [58,58]).1 (!(Lib.cut s [58,58]).2.2)) (Lz.gL (Lib.cut s [58,58]).2.1 true):=by
 unfold Lz.jw;simp only;split
 ·rfl
 ·generalize Lz.gL (Lib.cut s [58,58]).1 (!(Lib.cut s [58,58]).2.2)=a;generalize Lz.gL (Lib.cut s [58,58]).2.1 true=b;cases a with
  | none=>rfl
  | some x=>cases b with
    | none=>rfl
    | some y=>
      unfold Q3;simp only;cases (Lib.cut s [58,58]).2.2
      ·simp only[Bool.false_eq_true,if_false];by_cases h:x.length+y.length=8
       ·rw[if_pos h,h];have:8-x.length-y.length=0:=by omega
        rw[this];simp
       ·rw[if_neg h];have:(x.length+y.length==8)=false:=beq_eq_false_iff_ne.2 h;rw[this];rfl
      ·simp
theorem Ac (s:ByteArray) (hs:s.size<=1048576) (w:World) (hE:eU w):Calls Tryz.prog 294 #[.string s] w (Vg (Lz.jw s.data.toList) w):=by
 have cC:=fun W hW=>CK s ⟨#[58,58]⟩ (by omega) W hW
 have wB:(Lib.cut s.data.toList [58,58]).1.length<=s.size/\(Lib.cut s.data.toList [58,58]).2.1.length<=s.size:=by
  unfold Lib.cut;split
  ·simp only[List.length_take,List.length_drop,ac];omega
  ·exact⟨Nat.le_refl _,Nat.zero_le _⟩
 obtain⟨R1,Se⟩:=wB;have hS:=Rl s.data.toList;rw[show(ByteArray.data ⟨#[58,58]⟩).toList=([58,58]:List UInt8)from rfl]at cC;generalize Lib.cut s.data.toList [58,58]=c at cC R1 Se hS;obtain⟨c1,c2,sh⟩:=c;simp only at cC R1 Se hS;have CC:=Ih cC;have HS:=Ih hS;have aae:=Ih R1;have aaD:=Ih Se;clear cC hS R1 Se;go_enter Tryz.func294,Tryz.ntmps294
 go_upto_region 1 with fail
 generalize hwx:w.alloc _=wx;have X0:wx=w.alloc (.cells z8 326):=by rw[<-hwx];rfl
 have pA:wx.heap[w.heap.size]? =some (.cells z8 326 (0,0)):=by rw[X0];exact heap_alloc_new w _
 have pD:Below w.heap.size w wx:=by rw[X0];exact(Below.refl _ w).alloc (Nat.le_refl _) _
 have eZ:w.heap.size<wx.heap.size:=by rw[X0];simp
 clear hwx X0
 go_wp2_with fail
 refine(CC.out _ (hE.below pD)).mono ?_;rintro e w1 ⟨fr,bk,rfl,mo,gX,av⟩;have i9:w1.heap[w.heap.size]? =some (.cells z8 326 (0,0)):=by rw[av.block _ eZ];exact pA
 have it:=ae pD av;have d9:w.heap.size<w1.heap.size:=Nat.lt_of_lt_of_le eZ av.size;have DR:fr.size<=s.size:=by rw[<-ac fr,mo.out];exact aae.out
 have R3:bk.size<=s.size:=by rw[<-ac bk,gX.out];exact aaD.out
 obtain⟨pb,xB⟩:∃pb,pb=Lib.hasPrefix bk.data.toList [58]:=⟨_,rfl⟩;obtain⟨q,hq⟩:∃q,q=((!sh&&s.data.toList.isEmpty)||pb):=⟨_,rfl⟩
 have K0:Hid (Lz.jw s.data.toList=if q then none else Q3 sh (Lz.gL fr.data.toList (!sh)) (Lz.gL bk.data.toList true)):=by
  show _=_;rw[HS.out,mo.out,gX.out,hq,xB,gX.out]
 have cP:=fun W=>nh bk ⟨#[58]⟩ W;rw[show Lib.hasPrefix bk.data.toList (ByteArray.data ⟨#[58]⟩).toList=pb from xB.symm]at cP;have CP:=Ih cP;have Hq:=Ih hq;have OP:=Ih i9;clear HS aae aaD CC pD eZ pA av cP xB hq i9
 go_upto_region 2 with fail
 go_cut [25] (fun s25 wc=>s25=.bool q/\w1=wc)
 case first=>
  have call:pb=true\/pb=false:=by cases pb<;>simp
  cases sh
  ·by_cases hz:s.size=0
   ·have he:=aN hz;have HQ:Hid (q=true):=by show _=_;rw[Hq.out,<-Lib.toList_data,he];rfl
    go_wp2_with fail
    go_meet;exact⟨by rw[HQ.out],rfl⟩
   ·have he:=aG (s:=s) (by omega);have HQ:Hid (q=pb):=by show _=_;rw[Hq.out,<-Lib.toList_data,he];rfl
    go_wp2_with fail
    refine(CP.out _).mono ?_;rintro e w' ⟨rfl,rfl⟩
    go_wp2_with fail
    go_meet;exact⟨by rw[HQ.out],rfl⟩
  ·have HQ:Hid (q=pb):=by show _=_;rw[Hq.out];rfl
   go_wp2_with fail
   refine(CP.out _).mono ?_;rintro e w' ⟨rfl,rfl⟩
   go_wp2_with fail
   go_meet;exact⟨by rw[HQ.out],rfl⟩
 case rest=>
  obtain⟨rfl,rfl⟩:=hcut;clear CP Hq;cases q
  ·have XP:Hid (Lz.jw s.data.toList=Q3 sh (Lz.gL fr.data.toList (!sh)) (Lz.gL bk.data.toList true)):=by show _=_;rw[K0.out];rfl
   have cX:=fun W hW=>G4 fr (!sh) (by omega) W hW;have cY:=fun W hW=>G4 bk true (by omega) W hW;have AR:=fun l (h:Lz.gL fr.data.toList (!sh)=some l)=>Lz.Bi h;have XF:=fun l (h:Lz.gL bk.data.toList true=some l)=>Lz.Bi h;rw[ac]at AR XF;generalize Lz.gL fr.data.toList (!sh)=ox at cX XP AR;generalize Lz.gL bk.data.toList true=oy at cY XP XF;have Hlx:=Ih AR;have Hly:=Ih XF;clear AR XF;have CX:=Ih cX;have CY:=Ih cY;clear cX cY K0 mo gX
   go_wp2_with fail
   refine(CX.out _ (hE.below it)).mono ?_;rintro e w2 ⟨aE,dH⟩;have tJ:=ae it aE;have eo:w.heap.size<w2.heap.size:=Nat.lt_of_lt_of_le d9 aE.size;have Lj:Hid (w2.heap[w.heap.size]? =some (.cells z8 326 (0,0))):=by show _=_;rw[aE.block _ d9];exact OP.out
   cases ox with
   | none=>
     obtain⟨v,rfl,rK⟩:=dH;have DS:=Ih rK;obtain⟨p,u,rfl,_,_,_⟩:=rK;have HN:Hid (Lz.jw s.data.toList=none):=by show _=_;rw[XP.out];rfl
     go_wp2_with (refine iS rfl _ _ rfl w.heap.size rfl z8 rfl tY rfl z8 Lj.out rfl ?_)
     refine bodyPost_ret (ee rfl _ _ w.heap.size _ z8 (0,0) _ rfl (setRow_heap _ _ _ _ _ _ Lj.out) Tryz.underlying326 rfl i4) rfl ?_;rw[HN.out];exact ry tJ Lj.out DS.out
   | some x=>
   obtain⟨vx,acx,rfl,qL,hox⟩:=dH;clear OP aE CX
   go_wp2_with fail
   refine(CY.out _ (hE.below tJ)).mono ?_;rintro e w3 ⟨bj,dH⟩;have lq:=ae tJ bj;have hz3:w.heap.size<w3.heap.size:=Nat.lt_of_lt_of_le eo bj.size;have TQ:Hid (w3.heap[w.heap.size]? =some (.cells z8 326 (0,0))):=by show _=_;rw[bj.block _ eo];exact Lj.out
   cases oy with
   | none=>
     obtain⟨v,rfl,rK⟩:=dH;have DS:=Ih rK;obtain⟨p,u,rfl,_,_,_⟩:=rK;have HN:Hid (Lz.jw s.data.toList=none):=by show _=_;rw[XP.out];rfl
     clear hox
     go_wp2_with (refine iS rfl _ _ rfl w.heap.size rfl z8 rfl tY rfl z8 TQ.out rfl ?_)
     refine bodyPost_ret (ee rfl _ _ w.heap.size _ z8 (0,0) _ rfl (setRow_heap _ _ _ _ _ _ TQ.out) Tryz.underlying326 rfl i4) rfl ?_;rw[HN.out];exact ry lq TQ.out DS.out
   | some y=>
   obtain⟨vy,aaq,rfl,Xk,hoy⟩:=dH;have AR:=Hlx.out x rfl;have XF:=Hly.out y rfl;have acT:x.length<=1048578:=by omega
   have acJ:y.length<=1048578:=by omega
   have hgy:w.heap.size<aaq:=by omega
   obtain⟨ax,cx,rfl,Z9⟩:=Iw (dh hox bj);obtain⟨ay,cy,rfl,ZM⟩:=Iw hoy;have HX2:=Ih Z9;have HY2:=Ih ZM;obtain⟨r,Pw⟩:∃r,r=(if sh then decide (8<=x.length+y.length)else !(x.length+y.length==8)):=⟨_,rfl⟩;have HS4:Hid (Lz.jw s.data.toList=if r then none else some (x++List.replicate (8-x.length-y.length) 0++y)):=by show _=_;rw[XP.out,Pw];rfl
   have hr8:r=false->x.length+y.length<=8:=by
    intro h;rw[Pw]at h;cases sh
    ·simp at h;omega
    ·simp at h;omega
   have ZR:=Ih Pw;have Hr8:=Ih hr8;clear hox hoy Lj Z9 ZM CY Pw hr8 XP bj DR R3 qL Xk AR XF Hlx Hly
   go_upto_region 11 with fail
   go_cut [68] (fun s68 wc=>s68=.bool r/\w3=wc)
   case first=>
    cases sh
    ·by_cases h8:x.length+y.length=8
     ·have TX:((x.length:Int)+(y.length:Int) != 8)=false:=by
       have:(x.length:Int)+(y.length:Int)=8:=by omega
       rw[this];rfl
      have HQ:Hid (r=false):=by show _=_;rw[ZR.out,h8];rfl
      clear h8
      go_wp2_with fail
      go_meet;exact⟨by rw[HQ.out],rfl⟩
     ·have TX:((x.length:Int)+(y.length:Int) != 8)=true:=by simp;omega
      have HQ:Hid (r=true):=by show _=_;rw[ZR.out];simp[h8]
      clear h8
      go_wp2_with fail
      go_meet;exact⟨by rw[HQ.out],rfl⟩
    ·by_cases h8:8<=x.length+y.length
     ·have TX:(8:Int)<=(x.length:Int)+(y.length:Int):=by omega
      have hd8:decide ((8:Int)<=(x.length:Int)+(y.length:Int))=true:=decide_eq_true TX;have HQ:Hid (r=true):=by show _=_;rw[ZR.out];simp[h8]
      go_wp2_with fail
      go_meet;exact⟨by rw[HQ.out],rfl⟩
     ·have TX:¬(8:Int)<=(x.length:Int)+(y.length:Int):=by omega
      have hd8:decide ((8:Int)<=(x.length:Int)+(y.length:Int))=false:=decide_eq_false TX;have HQ:Hid (r=false):=by show _=_;rw[ZR.out];simp;omega
      go_wp2_with fail
      go_meet;exact⟨by rw[HQ.out],rfl⟩
   case rest=>
    obtain⟨rfl,rfl⟩:=hcut;clear ZR;cases r
    ·have hxy:=Hr8.out rfl;have HS5:Hid (Lz.jw s.data.toList=some (x++List.replicate (8-x.length-y.length) 0++y)):=by show _=_;rw[HS4.out];rfl
     have dY:∀W,(Instr.sliceAt 326 (.pointer (some ⟨w.heap.size,0,none⟩)) none none none).run Tryz.prog W=.ok (.slice (some ⟨w.heap.size,0,none⟩) 8 8) W:=fun W=>by
      rw[run_sliceAt_array_all W 326 ⟨w.heap.size,0,none⟩ (by simp[Program.arrayLen,Program.elem,Tryz.underlying326])];rw[qF];go_simp
     obtain⟨t,ht⟩:∃t:Nat,t=8-y.length:=⟨_,rfl⟩;have ht8:t<=8:=by omega
     have htI:(8:Int)-(y.length:Int)=(t:Int):=by omega
     obtain⟨a2,mo,ti⟩:=Bt w.heap.size t ht8;have WT:(dE x).length=x.length:=by simp[dE]
     have hlv:(dE y).length=y.length:=by simp[dE]
     have jE:(dE x).length=Nat.min x.length 8:=by rw[WT];exact(Nat.min_eq_left (by omega)).symm
     have hny:(dE y).length=Nat.min y.length (8-t):=by rw[hlv];exact(Nat.min_eq_left (by omega)).symm
     have KV:∀l:List Nat,∀v∈dE l,v.oneCell'=true:=by
      intro l v hv;obtain⟨n,_,rfl⟩:=List.mem_map.1 hv;rfl
     have DO:0<(dE x).length->(some ⟨w.heap.size,0,none⟩:Option Addr)=some ⟨w.heap.size,0,none⟩/\∃ad,ax=some ad/\∀j v,(dE x)[j]? =some v->w3.cell? (ad.add j)=some v:=fun h=>by
      obtain⟨g,h1,_,h2⟩:=HX2.out (by omega);exact⟨rfl,_,h1,fun j v hj=>by rw[bD];exact h2 j v hj⟩
     have AK:=setRow_heap w3 w.heap.size z8 (splice z8.toList 0 (dE x)).toArray 326 (0,0) TQ.out
     have hcy:0<(dE y).length->a2=some ⟨w.heap.size,t,none⟩/\∃ad,ay=some ad/\∀j v,(dE y)[j]? =some v->(w3.setRow w.heap.size (splice z8.toList 0 (dE x)).toArray).cell? (ad.add j)=some v:=fun h=>by
      obtain⟨g,h1,hg,h2⟩:=HY2.out (by omega);exact⟨ti (by omega),_,h1,fun j v hj=>by rw[bD,Dh _ _ _ _ _ (by omega)];exact h2 j v hj⟩
     have wH:=below_setRow lq (Nat.le_refl _) (splice z8.toList 0 (dE x)).toArray;have KX:z8.toList.length=8:=rfl;have Pk:0+(dE x).length<=z8.toList.length:=by rw[WT,KX];omega
     have DU:(splice z8.toList 0 (dE x)).length=8:=by rw[length_splice _ _ _ Pk,KX]
     have rK:t+(dE y).length<=(splice z8.toList 0 (dE x)).length:=by rw[DU,hlv];omega
     have wz:splice (splice z8.toList 0 (dE x)) t (dE y)=dE (x++List.replicate (8-x.length-y.length) 0++y):=by
      have hz:z8.toList=List.replicate 8 (Value.int .u16 0):=rfl;unfold splice;rw[hz,WT,hlv,Nat.zero_add,List.take_zero,List.nil_append,List.drop_replicate];rw[List.take_append,List.drop_append,(show(dE x).take t=dE x from List.take_of_length_le (by rw[WT];omega)),(show(dE x).drop (t+y.length)=[]from List.drop_eq_nil_of_le (by rw[WT];omega)),WT,List.take_replicate,List.drop_replicate];rw[show 8-x.length-(t+y.length-x.length)=0 by omega,show min (t-x.length) (8-x.length)=8-x.length-y.length by omega]
      simp[dE]
     have Ht:=Ih ht;have gi:=Ih dY;have Hfr:=Ih mo;have Hcx:=Ih DO;have Hcy:=Ih hcy;have Xw:=Ih AK;have II:=Ih jE;have Hny:=Ih hny;have Hfx:=Ih Pk;have DS:=Ih rK;have Xs:=Ih KV;have ZZ:=Ih wz;clear DO hcy AK jE hny Pk rK KV wz DU KX WT hlv ti HX2 HY2 HS4 Hr8 mo dY ht
     go_upto_region 13 with fail
     have dY:=gi.out;have mo:=Hfr.out
     go_upto_region 15 with(first |(refine l4 rfl (.tmp 74) (.tmp 75) 346 346 rfl 324 Tryz.underlying346 In (some ⟨w.heap.size,0,none⟩) ax 8 8 x.length cx rfl rfl w.heap.size 0 z8.toList 326 TQ.out (dE x) II.out Hcx.out Hfx.out (Xs.out x) ?_)|(refine l4 rfl (.tmp 80) (.tmp 81) 346 346 rfl 324 Tryz.underlying346 In a2 ay (8-t) (8-t) y.length cy rfl rfl w.heap.size t (splice z8.toList 0 (dE x)) 326 Xw.out (dE y) Hny.out Hcy.out DS.out (Xs.out y) ?_))
     rw[ZZ.out];have WY:(x++List.replicate (8-x.length-y.length) 0++y).length=8:=by simp;omega
     have OU:(dE (x++List.replicate (8-x.length-y.length) 0++y)).toArray.all (·.oneCell')=true:=by
      simp[dE,Value.oneCell']
     generalize x++List.replicate (8-x.length-y.length) 0++y=al at HS5 WY OU⊢;have XY:=setRow_heap _ w.heap.size _ (dE al).toArray 326 (0,0) Xw.out;have O3:=below_setRow wH (Nat.le_refl _) (dE al).toArray;have hl8:(dE al).toArray.size=8:=by simp[dE,WY]
     have So:(Tryz.prog.info? 326).map (·.size)=some (dE al).toArray.size:=by rw[i4,hl8]
     generalize (w3.setRow w.heap.size (splice z8.toList 0 (dE x)).toArray).setRow w.heap.size (dE al).toArray=w5 at XY O3⊢;have Hr5:=Ih XY;have Hi8:=Ih So;have Hl8:=Ih hl8;have aaF:=Ih OU;clear gi dY Hfr Hcx Hcy Xw II Hny Hfx DS Xs ZZ Ht mo htI XY So hl8 OU WY wH TQ lq hz3
     go_wp2_with (first |(refine wpList_load_row rfl 326 _ rfl w.heap.size rfl 326 _ (0,0) _ Hr5.out Tryz.underlying326 rfl Hi8.out ?_)|(refine iS rfl _ _ rfl w.heap.size rfl (dE al).toArray Hl8.out aaF.out rfl (dE al).toArray Hr5.out Hl8.out ?_))
     refine bodyPost_ret (ee rfl _ _ w.heap.size _ (dE al).toArray (0,0) _ rfl (setRow_heap _ _ _ _ _ _ Hr5.out) Tryz.underlying326 rfl Hi8.out) rfl ?_;rw[HS5.out];exact⟨below_setRow O3 (Nat.le_refl _) _,rfl⟩
    ·have HN:Hid (Lz.jw s.data.toList=none):=by show _=_;rw[HS4.out];rfl
     have AK:∀o,(w3.alloc o).heap[w.heap.size]? =some (.cells z8 326 (0,0)):=fun o=>by rw[heap_alloc_old _ _ hz3];exact TQ.out
     have Xw:=Ih AK;clear AK
     go_wp2_with (refine iS rfl _ _ rfl w.heap.size rfl z8 rfl tY rfl z8 (Xw.out _) rfl ?_)
     refine bodyPost_ret (ee rfl _ _ w.heap.size _ z8 (0,0) _ rfl (setRow_heap _ _ _ _ _ _ (Xw.out _)) Tryz.underlying326 rfl i4) rfl ?_;rw[HN.out];exact CL lq hz3 TQ.out
  ·have HN:Hid (Lz.jw s.data.toList=none):=by show _=_;rw[K0.out];rfl
   have iG:∀o,(w1.alloc o).heap[w.heap.size]? =some (.cells z8 326 (0,0)):=fun o=>by rw[heap_alloc_old _ _ d9];exact OP.out
   have Lj:=Ih iG;clear iG
   go_wp2_with (refine iS rfl _ _ rfl w.heap.size rfl z8 rfl tY rfl z8 (Lj.out _) rfl ?_)
   refine bodyPost_ret (ee rfl _ _ w.heap.size _ z8 (0,0) _ rfl (setRow_heap _ _ _ _ _ _ (Lj.out _)) Tryz.underlying326 rfl i4) rfl ?_;rw[HN.out];exact CL it d9 OP.out
end Go.Proofs.YtibcmemcfjhgmaaGreatDoor
namespace Lz
open Go
theorem yW (many v k:Nat) (h:k<many):(gx many v).take (many-k)=(gx many v).take (many-(k+1))++[v / 256^k%256]:=by
 have e:many-k=(many-(k+1))+1:=by omega
 rw[e,List.take_add_one];congr 1;unfold gx;rw[List.getElem?_map,List.getElem?_reverse (by simp;omega)];simp only[List.length_range];rw[List.getElem?_range (by omega)];simp only[Option.map_some,Option.toList_some];rw[show many-1-(many-(k+1))=k by omega]
theorem xX (many v:Nat):(gx many v).take 0=[]:=rfl
theorem xM (many v:Nat):(gx many v).take many=gx many v:=List.take_of_length_le (by rw[pY];exact Nat.le_refl _)
end Lz
namespace Go.Proofs.YtibcmemcfjhgmaaGreatDoor
open Go.RowKit
def Tm (o:Option (List UInt8)) (w:World) (e:Ending) (w':World):Prop:=
 Below w.heap.size w w'/\match o with
  | some t=>∃u:ByteArray,e=.returned (.tuple #[.string u,.nilIface])/\Hid (u.data.toList=t)
  | none=>∃v d,d<=2/\e=.returned (.tuple #[.string ⟨#[]⟩,v])/\dv w' 71 d v
theorem ly {w wx:World} {s:ByteArray} {u:Value} {d:Nat} {t:TypeId} {fr:Nat×Nat} (hb:Below w.heap.size w wx) (hu:dv wx 71 d u) (hd:d<=1):
  Tm none w (.returned (.tuple #[.string ⟨#[]⟩,.iface 321 (.pointer (some ⟨wx.heap.size,0,none⟩))])) (wx.alloc (.cells #[.string s,u] t fr)):=
 ⟨hb.alloc hb.size _,_,_,Nat.succ_le_succ hd,rfl,fR hu⟩
theorem tq (v k:Nat):(v:Int) / 2^(8*k)=((v / 256^k:Nat):Int):=by
 rw[show(2:Int)^(8*k)=((256^k:Nat):Int) by rw[Int.pow_mul];simp]
 simp
theorem Ru {w:World} {base:Nat} {v:Value} {n:Nat} {l:List Nat} (h:w.ownsRow base 5 1 v n (u8n l)) (hl:∀x∈l,x<256):SlB w v (l.map UInt8.ofNat):=by
 have aO:l.length=n:=by have:=h.1;simpa [u8n]using this
 rcases h.2 with⟨rfl,h0⟩|⟨g,cap,dx,rfl,mu,hg,Uf,tj,iF,gu⟩
 ·obtain rfl:l=[]:=List.length_eq_zero_iff.1 (by omega);exact⟨none,0,rfl,by simp,fun j b hj=>by simp at hj⟩
 ·refine⟨some ⟨g,0,none⟩,cap,by rw[List.length_map,aO],by rw[List.length_map];unfold maxLen at tj;omega,fun j b hj=>?_⟩;refine⟨g,0,rfl,(Array.getElem?_eq_some_iff.1 hg).1,?_⟩;rw[List.getElem?_map]at hj;cases hx:l[j]? with
  | none=>rw[hx]at hj;cases hj
  | some x=>
    rw[hx]at hj;have hb:UInt8.ofNat x=b:=Option.some.inj hj;have h2:(u8n l)[j]? =some (.int .u8 (x:Int)):=by simp[u8n,hx]
    rw[<-gu,List.getElem?_take]at h2;split at h2
    ·have VW:=hl x (List.mem_of_getElem? hx);have aE:(b.toNat:Int)=x:=by rw[<-hb];simp;omega
     rw[aE,Nat.zero_add];simp only[World.cell?,hg];simpa using h2
    ·cases h2
theorem NL (b cap:Nat) (xs:List ByteArray) (h1:1<=xs.length) (hn:xs.length<=1000000) (hx:∀x,x∈xs->x.size<=1048576) (w:World) (hE:eU w) (hT:fV w b xs):
  Calls Tryz.prog 324 #[.slice (some ⟨b,0,none⟩) xs.length cap] w (Tm (Lz.fK (xs.map (·.data.toList))) w):=by
 obtain⟨i0,hi,eZ,d9,eo⟩:=info_parts pR;by_cases h4:4<xs.length
 ·have HN:Hid (Lz.fK (xs.map (·.data.toList))=none):=by
   show _=_;unfold Lz.fK;rw[List.length_map,if_pos h4]
  go_enter Tryz.func324,Tryz.ntmps324
  go_wp2
  go_ret2
  rw[HN.out];exact ly (d:=0) (Below.refl _ _) rfl (by omega)
 ·have HN:Hid (Lz.fK (xs.map (·.data.toList))=(Lz.eO xs.length (xs.map (·.data.toList))).map Lz.eR):=by
   show _=_;unfold Lz.fK;rw[List.length_map,if_neg h4]
  have HT:=Ih hT;have Hx:=Ih hx;clear hT hx;have hst:=World.ownsRow_nil w w.heap.size 5 1;go_enter Tryz.func324,Tryz.ntmps324
  go_wp2_with fail
  go_loopw [4,20] (fun a i wr=>∃(j:Nat) (bs:List Nat),j<=xs.length/\bs.length<=4*j/\(j=xs.length->1<=bs.length)/\i=.int .i64 j/\Hid (∀x∈bs,x<256)/\Hid (Lz.eO xs.length (xs.map (·.data.toList))=(Lz.eO xs.length ((xs.drop j).map (·.data.toList))).map (bs++·))/\wr.ownsRow w.heap.size 5 1 a bs.length (u8n bs)/\Below w.heap.size w wr) (fun _ i _=>xs.length-(intOf i).toNat)
  case atStart=>exact⟨0,[],Nat.zero_le _,by simp,by omega,rfl,Ih (by simp),by show _=_;simp,hst,Below.refl _ w⟩
  case round=>
   clear hst;obtain⟨j,bs,hj,OF,hbj,rfl,aL,hF,ai,hb⟩:=hrel;have fu:=hb.size;have bi:=Ih ai;by_cases mq:j<xs.length
   ·obtain⟨x,hx⟩:∃x,xs[j]? =some x:=⟨_,List.getElem?_eq_getElem mq⟩;have DO:=(HT.out.below hb).cells _ _ hx;have Py:=Hx.out x (List.mem_of_getElem? hx)
    have DE:xs.drop j=x::xs.drop (j+1):=by
     rw[List.drop_eq_getElem_cons mq];congr 1;have:=List.getElem?_eq_getElem mq;rw[hx]at this;exact(Option.some.inj this).symm
    have AF:=Lz.wi xs.length x.data.toList ((xs.drop (j+1)).map (·.data.toList));have DM:(xs.drop j).map (·.data.toList)=x.data.toList::(xs.drop (j+1)).map (·.data.toList):=by rw[DE];rfl
    rw[<-DM]at AF
    have iK:((xs.drop (j+1)).map (·.data.toList)=[])↔j+1=xs.length:=by
     rw[List.map_eq_nil_iff,List.drop_eq_nil_iff];omega
    have cN:=fun W=>uZ x (by omega) W;generalize Lz.qY x.data.toList=o at AF cN;have DF:=Ih iK;have nB:=Ih AF;have CN:=Ih cN;clear hx DE DM AF iK cN ai
    go_wp2_with fail
    refine(CN.out _).mono ?_;rintro e w2 ⟨aE,dH⟩;have aC:=ae hb aE;cases o with
    | none=>
      obtain⟨v,rfl,rK⟩:=dH;have DS:=Ih rK;obtain⟨p,u,rfl,_,_,_⟩:=rK
      have kJ:Hid (Lz.fK (xs.map (·.data.toList))=none):=by
       show _=_;rw[HN.out,hF.out,nB.out];rfl
      clear nB hF
      go_wp2_with fail
      refine(vB (j:Int) (by omega) (by omega) _ (hE.below aC)).mono ?_;rintro e w3 ⟨d,rfl,hd,bj⟩;have hdz:d.size<=21:=by rw[<-ac,hd.out];exact(Lz.kQ (n:=(j:Int)) (by omega) (by omega)).2.2
      have hds:¬(9223372036854775807<6+d.size):=by omega
      have gw:=ae aC bj
      go_wp2
      go_ret2
      rw[kJ.out];exact ly (d:=1) gw (DS.out.below bj) (by omega)
    | some v=>
    obtain⟨rfl,hv⟩:=dH;by_cases xA:j+1=xs.length
    ·have hjb:((j:Int)==(xs.length:Int)-1)=true:=by simp;omega
     have V5:=DF.out.2 xA;obtain⟨many,DJ⟩:∃many:Nat,many=5-xs.length:=⟨_,rfl⟩;have Sm:1<=many/\many<=4:=by omega
     have fP:Hid (Lz.eO xs.length ((xs.drop j).map (·.data.toList))=if 0<v / 256^many then none else(Lz.eO xs.length ((xs.drop (j+1)).map (·.data.toList))).map fun t=>Lz.gx many v++t):=by
      show _=_;rw[nB.out,DJ];simp only[V5,if_true]
     have Hs8:=Ih (tq v many);clear nB
     go_upto_region 13 with fail
     rw[show Value.int .i64 (5-(xs.length:Int))=Value.int .i64 (many:Int) by congr 1;omega];have St:=Hs8.out;generalize hq:v / 256^many=q at St fP;have Hq:=Ih hq;clear DJ Hs8 hq;by_cases Gi:0<q
     ·have hqi:(0:Int)<(q:Int):=by omega
      have kJ:Hid (Lz.fK (xs.map (·.data.toList))=none):=by
       show _=_;rw[HN.out,hF.out,fP.out,if_pos Gi];rfl
      go_wp2_with fail
      refine(vB (j:Int) (by omega) (by omega) _ (hE.below aC)).mono ?_;rintro e w3 ⟨d,rfl,hd,bj⟩;have hdz:d.size<=21:=by rw[<-ac,hd.out];exact(Lz.kQ (n:=(j:Int)) (by omega) (by omega)).2.2
      have hds:¬(9223372036854775807<6+d.size):=by omega
      have gw:=ae aC bj
      go_wp2
      go_ret2
      rw[kJ.out];exact ly (d:=0) gw rfl (by omega)
     ·have hqi:¬(0:Int)<(q:Int):=by omega
      have ZA:Hid (Lz.eO xs.length (xs.map (·.data.toList))=(Lz.eO xs.length ((xs.drop (j+1)).map (·.data.toList))).map ((bs++Lz.gx many v)++·)):=by
       show _=_;rw[hF.out,fP.out,if_neg Gi];cases Lz.eO xs.length ((xs.drop (j+1)).map (·.data.toList))<;>simp
      clear fP hF
      go_upto_region 15 with fail
      clear St hqi Gi Hq;have ws:=Lz.pY many v;have Hml:=Ih ws;clear ws;have bF:=Ih (dh bi.out aE);have R3:=aC.size
      go_wp2_with fail
      go_loopw [4,10] (fun a c wr=>∃r:Nat,r<=many/\c=.int .i64 ((r:Int)-1)/\wr.ownsRow w.heap.size 5 1 a (bs++(Lz.gx many v).take (many-r)).length (u8n (bs++(Lz.gx many v).take (many-r)))/\Below w.heap.size w wr) (fun _ c _=>(intOf c+1).toNat)
      case atStart=>exact⟨many,Nat.le_refl _,rfl,by rw[Nat.sub_self,Lz.xX,List.append_nil];exact bF.out,aC⟩
      case round=>
       clear aC R3 bF;obtain⟨r,hr,rfl,ba,bj⟩:=hrel;have OH:=bj.size;cases r with
       | succ k=>
         have tM:((k+1:Nat):Int)-1=k:=by omega
         rw[tM];have Sq:8*k<=64:=by omega
         have St:=tq v k;have gu:=Lz.yW many v k hr
         have AP:(bs++(Lz.gx many v).take (many-(k+1))).length<=20:=by
          rw[List.length_append,List.length_take];omega
         generalize ww:bs++(Lz.gx many v).take (many-(k+1))=bs2 at ba AP
         have nw:Hid (bs++(Lz.gx many v).take (many-k)=bs2++[v / 256^k%256]):=by
          show _=_;rw[gu,<-List.append_assoc,ww]
         have dZ:=Ih ba;generalize v / 256^k=q at St nw;clear gu ww ba tM
         go_wp2_with (at_builtin;refine wpList_append_own _ rfl (.tmp 65) (.tmp 71) 93 rfl w.heap.size 5 i0 (.int .u8 0) 1 1 Tryz.underlying93 hi eZ d9 eo rfl (by decide) _ _ _ rfl (dZ.out.alloc _) ⟨wr.heap.size,0,none⟩ 1 1 [.int .u8 ((q:Int)%256)] rfl rfl (aJ _ _ _) (by simp[Value.oneCell']) (by unfold maxLen;omega) (by omega) (by simp;omega) ?_)
         intro v' w4 aS bp _;have eB:Below w.heap.size w w4:=Below.grown1 bj dZ.out bp OH (Nat.le_refl _);rw[show((q:Int)%256)=((q%256:Nat):Int) by omega,vY]at aS;have iL:=Ih aS;clear aS bp
         go_wp2
         go_roundw
         case rel=>exact⟨k,by omega,rfl,by rw[nw.out,List.length_append];exact iL.out,eB⟩
         case measure=>simp[intOf]
       | zero=>
         have dZ:Hid (wr.ownsRow w.heap.size 5 1 u4 (bs++Lz.gx many v).length (u8n (bs++Lz.gx many v))):=by
          have:=ba;rw[Nat.sub_zero,Lz.xM]at this;exact this
         clear ba
         go_wp2
         go_roundw
         case rel=>exact⟨j+1,bs++Lz.gx many v,by omega,by rw[List.length_append,Hml.out];omega,by rw[List.length_append,Hml.out];omega,by go_num,Ih (fun x hx=>(List.mem_append.1 hx).elim (aL.out x) Lz.tz),ZA.out,dZ.out,bj⟩
         case measure=>simp[intOf];omega
    ·have hjb:((j:Int)==(xs.length:Int)-1)=false:=by simp;omega
     have V5:¬((xs.drop (j+1)).map (·.data.toList)=[]):=fun h=>xA (DF.out.1 h);obtain⟨many,DJ⟩:∃many:Nat,many=1:=⟨_,rfl⟩;have Sm:1<=many/\many<=4:=by omega
     have fP:Hid (Lz.eO xs.length ((xs.drop j).map (·.data.toList))=if 0<v / 256^many then none else(Lz.eO xs.length ((xs.drop (j+1)).map (·.data.toList))).map fun t=>Lz.gx many v++t):=by
      show _=_;rw[nB.out,DJ];simp only[V5,if_false]
     have Hs8:=Ih (tq v many);clear nB
     go_upto_region 13 with fail
     rw[show Value.int .i64 1=Value.int .i64 (many:Int) by congr 1;omega];have St:=Hs8.out;generalize hq:v / 256^many=q at St fP;have Hq:=Ih hq;clear DJ Hs8 hq;by_cases Gi:0<q
     ·have hqi:(0:Int)<(q:Int):=by omega
      have kJ:Hid (Lz.fK (xs.map (·.data.toList))=none):=by
       show _=_;rw[HN.out,hF.out,fP.out,if_pos Gi];rfl
      go_wp2_with fail
      refine(vB (j:Int) (by omega) (by omega) _ (hE.below aC)).mono ?_;rintro e w3 ⟨d,rfl,hd,bj⟩;have hdz:d.size<=21:=by rw[<-ac,hd.out];exact(Lz.kQ (n:=(j:Int)) (by omega) (by omega)).2.2
      have hds:¬(9223372036854775807<6+d.size):=by omega
      have gw:=ae aC bj
      go_wp2
      go_ret2
      rw[kJ.out];exact ly (d:=0) gw rfl (by omega)
     ·have hqi:¬(0:Int)<(q:Int):=by omega
      have ZA:Hid (Lz.eO xs.length (xs.map (·.data.toList))=(Lz.eO xs.length ((xs.drop (j+1)).map (·.data.toList))).map ((bs++Lz.gx many v)++·)):=by
       show _=_;rw[hF.out,fP.out,if_neg Gi];cases Lz.eO xs.length ((xs.drop (j+1)).map (·.data.toList))<;>simp
      clear fP hF
      go_upto_region 15 with fail
      clear St hqi Gi Hq;have ws:=Lz.pY many v;have Hml:=Ih ws;clear ws;have bF:=Ih (dh bi.out aE);have R3:=aC.size
      go_wp2_with fail
      go_loopw [4,10] (fun a c wr=>∃r:Nat,r<=many/\c=.int .i64 ((r:Int)-1)/\wr.ownsRow w.heap.size 5 1 a (bs++(Lz.gx many v).take (many-r)).length (u8n (bs++(Lz.gx many v).take (many-r)))/\Below w.heap.size w wr) (fun _ c _=>(intOf c+1).toNat)
      case atStart=>exact⟨many,Nat.le_refl _,rfl,by rw[Nat.sub_self,Lz.xX,List.append_nil];exact bF.out,aC⟩
      case round=>
       clear aC R3 bF;obtain⟨r,hr,rfl,ba,bj⟩:=hrel;have OH:=bj.size;cases r with
       | succ k=>
         have tM:((k+1:Nat):Int)-1=k:=by omega
         rw[tM];have Sq:8*k<=64:=by omega
         have St:=tq v k;have gu:=Lz.yW many v k hr
         have AP:(bs++(Lz.gx many v).take (many-(k+1))).length<=20:=by
          rw[List.length_append,List.length_take];omega
         generalize ww:bs++(Lz.gx many v).take (many-(k+1))=bs2 at ba AP
         have nw:Hid (bs++(Lz.gx many v).take (many-k)=bs2++[v / 256^k%256]):=by
          show _=_;rw[gu,<-List.append_assoc,ww]
         have dZ:=Ih ba;generalize v / 256^k=q at St nw;clear gu ww ba tM
         go_wp2_with (at_builtin;refine wpList_append_own _ rfl (.tmp 65) (.tmp 71) 93 rfl w.heap.size 5 i0 (.int .u8 0) 1 1 Tryz.underlying93 hi eZ d9 eo rfl (by decide) _ _ _ rfl (dZ.out.alloc _) ⟨wr.heap.size,0,none⟩ 1 1 [.int .u8 ((q:Int)%256)] rfl rfl (aJ _ _ _) (by simp[Value.oneCell']) (by unfold maxLen;omega) (by omega) (by simp;omega) ?_)
         intro v' w4 aS bp _;have eB:Below w.heap.size w w4:=Below.grown1 bj dZ.out bp OH (Nat.le_refl _);rw[show((q:Int)%256)=((q%256:Nat):Int) by omega,vY]at aS;have iL:=Ih aS;clear aS bp
         go_wp2
         go_roundw
         case rel=>exact⟨k,by omega,rfl,by rw[nw.out,List.length_append];exact iL.out,eB⟩
         case measure=>simp[intOf]
       | zero=>
         have dZ:Hid (wr.ownsRow w.heap.size 5 1 u4 (bs++Lz.gx many v).length (u8n (bs++Lz.gx many v))):=by
          have:=ba;rw[Nat.sub_zero,Lz.xM]at this;exact this
         clear ba
         go_wp2
         go_roundw
         case rel=>exact⟨j+1,bs++Lz.gx many v,by omega,by rw[List.length_append,Hml.out];omega,by rw[List.length_append,Hml.out];omega,by go_num,Ih (fun x hx=>(List.mem_append.1 hx).elim (aL.out x) Lz.tz),ZA.out,dZ.out,bj⟩
         case measure=>simp[intOf];omega
   ·have Wh:j=xs.length:=by omega
    have HB:Hid (Lz.fK (xs.map (·.data.toList))=some (Lz.eR bs)):=by
     show _=_;rw[HN.out,hF.out,Wh,List.drop_length]
     simp[Lz.eO]
    have K8:=Ru ai aL.out
    have kz:(bs.map UInt8.ofNat).map (·.toNat)=bs:=by
     rw[List.map_map]
     conv=>rhs;rw[<-List.map_id bs]
     apply List.map_congr_left
     intro x hx;have:=aL.out x hx
     simp;omega
    have cD:=Eh u4 (bs.map UInt8.ofNat) wr (hE.below hb) K8 (by rw[List.length_map];omega) (by rw[List.length_map];exact hbj Wh);rw[kz]at cD;have CD:=Ih cD;have acS:¬j<xs.length:=mq;clear K8 kz cD ai bi Wh hbj hF mq
    go_wp2_with fail
    refine(CD.out).mono ?_;rintro e w2 ⟨u,rfl,hu,aE⟩
    go_wp2
    go_ret2
    rw[HB.out];exact⟨ae hb aE,u,rfl,hu⟩
def Nw (r:Lz.Res) (w:World) (e:Ending) (w':World):Prop:=
 Below w.heap.size w w'/\match r with
  | .ok t=>∃u:ByteArray,e=.returned (.tuple #[.string u,.nilIface])/\Hid (u.data.toList=t)
  | .er n=>∃v d,d<=2/\e=.returned (.tuple #[.string ⟨#[]⟩,v])/\dv w' (n:Int) d v
theorem jH {w wx:World} {s:ByteArray} {n:Nat} {v:Value} {d:Nat} {t:TypeId} {fr:Nat×Nat} (hb:Below w.heap.size w wx) (hv:dv wx (n:Int) d v) (hd:d<=1):
  Nw (.er n) w (.returned (.tuple #[.string ⟨#[]⟩,.iface 321 (.pointer (some ⟨wx.heap.size,0,none⟩))])) (wx.alloc (.cells #[.string s,v] t fr)):=
 ⟨hb.alloc hb.size _,_,_,Nat.succ_le_succ hd,rfl,fR hv⟩
theorem FI:∀l:List UInt8,(Lz.a7 l).length<=l.length:=by
 intro l
 induction h:l.length using Nat.strongRecOn generalizing l with
 | ind n ih=>
   cases l with
   | nil=>rw[Lz.a7];simp
   | cons c r=>
     rw[Lz.a7];simp only[List.length_cons]at h;split
     ·have:=ih (r.drop 2).length (by simp;omega) (r.drop 2) rfl
      simp at this⊢;omega
     ·have:=ih r.length (by omega) r rfl
      simp;omega
theorem Eu (s:ByteArray) (hs:s.size<=900000) (w:World) (hE:eU w):Calls Tryz.prog 296 #[.string s] w (Nw (Lz.eE s.data.toList) w):=by
 have rJ:=FI s.data.toList;rw[ac]at rJ;have HP:Hid (Lz.eE s.data.toList=if Lz.low (Lz.a7 s.data.toList)=[]\/(Lz.low (Lz.a7 s.data.toList)).any Lz.pQ=true then .er 70 else if Lz.dy (Lz.low (Lz.a7 s.data.toList))then Lz.ofO 71 (Lz.fK (Lz.dn (Lz.low (Lz.a7 s.data.toList))))else .ok (Lz.low (Lz.a7 s.data.toList))):=Ih rfl;have Hdl:=Ih rJ;clear rJ;go_enter Tryz.func296,Tryz.ntmps296
 go_wp2_with fail
 refine(Fs s (by omega) _).mono ?_;rintro e w1 ⟨d0,rfl,hd0,av⟩;have acu:d0.size<=s.size:=by rw[<-ac d0,hd0.out];exact Hdl.out
 go_wp2_with fail
 refine(kp d0 (by omega) _).mono ?_;rintro e w2 ⟨d,rfl,hd,aE⟩;have hdz:d.size<=s.size:=by rw[<-ac d,hd.out,gK,ac];exact acu
 have HQ:Hid (Lz.eE s.data.toList=if d.data.toList=[]\/d.data.toList.any Lz.pQ=true then .er 70 else if Lz.dy d.data.toList then Lz.ofO 71 (Lz.fK (Lz.dn d.data.toList))else .ok d.data.toList):=by
  show _=_;rw[HP.out,hd.out,hd0.out]
 have tJ:=ae av aE;clear HP Hdl hd0 hd av aE
 go_wp2_with fail
 refine(wY d _).mono ?_;rintro e w3 ⟨i,rfl,hi,bj⟩;have lq:=ae tJ bj;by_cases qK:d.data.toList=[]\/d.data.toList.any Lz.pQ=true
 ·have HN:Hid (Lz.eE s.data.toList=.er 70):=by show _=_;rw[HQ.out,if_pos qK]
  by_cases hz:d.size=0
  ·have he:=aN hz;clear qK HQ
   go_wp2
   go_ret2
   rw[HN.out];exact jH (d:=0) lq rfl (by omega)
  ·have he:=aG (s:=d) (by omega)
   have j6:0<=i:=by
    have h1:=hi.out;rcases qK with h|h
    ·exact absurd (by rw[<-ac,h];rfl) hz
    ·rw[h]at h1;exact of_decide_eq_true h1
   clear qK HQ
   go_wp2
   go_ret2
   rw[HN.out];exact jH (d:=0) lq rfl (by omega)
 ·have du:d.data.toList≠[]:=fun h=>qK (Or.inl h);have aab:0<d.size:=by rw[<-ac];exact List.length_pos_iff.2 du
  have he:=aG aab
  have j6:¬0<=i:=by
   intro h;have h1:=hi.out;rw[decide_eq_true h]at h1;exact qK (Or.inr h1.symm)
  have Tw:Hid (Lz.eE s.data.toList=if Lz.dy d.data.toList then Lz.ofO 71 (Lz.fK (Lz.dn d.data.toList))else .ok d.data.toList):=by
   show _=_;rw[HQ.out,if_neg qK]
  have cN:=zu d (by omega) w3 (hE.below lq);generalize Lz.dy d.data.toList=nb at cN Tw;have CN:=Ih cN;clear qK du HQ cN
  go_wp2_with fail
  refine(CN.out).mono ?_;rintro e w4 ⟨rfl,eB⟩;have wH:=ae lq eB;cases nb
  ·have HN:Hid (Lz.eE s.data.toList=.ok d.data.toList):=by show _=_;rw[Tw.out];rfl
   go_wp2
   go_ret2
   rw[HN.out];exact⟨wH,d,rfl,Ih rfl⟩
  ·have HN:Hid (Lz.eE s.data.toList=Lz.ofO 71 (Lz.fK (Lz.dn d.data.toList))):=by show _=_;rw[Tw.out];rfl
   go_wp2_with fail
   refine(vZ d (by omega) _ (hE.below wH)).mono ?_;rintro e w5 ⟨xs,b,cap,rfl,jD,AG,aO,DU,fu,hT,bv⟩;have O3:=ae wH bv;have cF:=NL b cap xs AG (by omega) (fun x hx=>by have:=fu x hx;omega) w5 (hE.below O3) hT;have kJ:Hid (Lz.eE s.data.toList=Lz.ofO 71 (Lz.fK (xs.map (·.data.toList)))):=by show _=_;rw[HN.out,DU.out]
   generalize Lz.fK (xs.map (·.data.toList))=o at cF kJ;have CF:=Ih cF;clear cF fu hT DU HN Tw AG aO jD bv
   go_wp2_with fail
   refine(CF.out).mono ?_;rintro e w6 ⟨eM,dH⟩;have ZU:=ae O3 eM;cases o with
   | none=>
     obtain⟨v,dd,Xr,rfl,rK⟩:=dH;have DS:=Ih rK;clear rK
     go_wp2
     go_ret2
     rw[kJ.out];exact⟨ZU,v,dd,Xr,rfl,DS.out⟩
   | some t=>
     obtain⟨u,rfl,hu⟩:=dH
     go_wp2
     go_ret2
     rw[kJ.out];exact⟨ZU,u,rfl,hu⟩
def Qj (s:ByteArray):Prop:=∀W,eU W->Calls Tryz.prog 297 #[.string s,.string lJ] W (a5 (s.data.toList.any Lz.ei.contains) W)
theorem Vd:Lz.kt 0=[]:=rfl
theorem tZ (s:List UInt8) (c:UInt8):Lib.hasPrefix s [c]=decide (s[0]? =some c):=by
 unfold Lib.hasPrefix;cases s with
 | nil=>rfl
 | cons b r=>
   rw[Lz.lU];by_cases h:c=b
   ·rw[h];simp
   ·have h1:(c==b)=false:=beq_eq_false_iff_ne.2 h;rw[h1,decide_eq_false];intro h2;exact h (Option.some.inj h2).symm
theorem M6 (a:List Nat) (h8:a.length=8) (hl:∀n∈a,n<65536):(Lz.eN a).length<=100:=by
 unfold Lz.eN;have h1:=mV a hl (by omega);have h2:=mV (a.take (Lz.gV 0 a (0,0)).1) (fun n hn=>hl n (List.mem_of_mem_take hn)) (by rw[List.length_take];omega);have h3:=mV (a.drop (Lz.gV 0 a (0,0)).2) (fun n hn=>hl n (List.mem_of_mem_drop hn)) (by rw[List.length_drop];omega);split
 ·omega
 ·rw[List.length_append,List.length_append];show _+2+_<=_;omega
theorem Jz (s:ByteArray) (special:Bool) (hs:s.size<=900000) (Pq:special=false->s.data.toList[0]? ≠some 91->Qj s) (w:World) (hE:eU w):Calls Tryz.prog 268 #[.string s,.bool special] w (Nw (Lz.aX s.data.toList special) w):=by
 obtain⟨q,hq⟩:∃q,q=decide (s.data.toList[0]? =some 91):=⟨_,rfl⟩;have cP:=fun W=>nh s ⟨#[91]⟩ W;rw[show Lib.hasPrefix s.data.toList (ByteArray.data ⟨#[91]⟩).toList=q by rw[hq];exact tZ _ _]at cP;have CP:=Ih cP;have Hq:=Ih hq;have Hca:=Ih Pq;clear cP hq Pq;cases q
 ·have Lk:s.data.toList[0]? ≠some 91:=of_decide_eq_false Hq.out.symm;cases special
  ·have HP:Hid (Lz.aX s.data.toList false=if s.data.toList.any Lz.ei.contains then .er 70 else .ok (Lz.aq [] s.data.toList)):=by
    show _=_;unfold Lz.aX;rw[if_neg Lk];rfl
   have cA:=Hca.out rfl Lk;unfold Qj at cA;generalize s.data.toList.any Lz.ei.contains=bad at cA HP;have CA:=Ih cA;clear cA Lk;go_enter Tryz.func268,Tryz.ntmps268
   go_wp2_with fail
   refine(CP.out _).mono ?_;rintro e w' ⟨rfl,rfl⟩
   go_wp2_with fail
   refine(CA.out _ hE).mono ?_;rintro e w1 ⟨rfl,av⟩;cases bad
   ·have HN:Hid (Lz.aX s.data.toList false=.ok (Lz.aq [] s.data.toList)):=by show _=_;rw[HP.out];rfl
    go_wp2_with fail
    refine(iM 0 (by omega) s (by omega) _).mono ?_;rintro e w2 ⟨u,rfl,hu,aE⟩
    go_wp2
    go_ret2
    rw[HN.out];exact⟨ae av aE,u,rfl,Ih (by rw[hu.out,Vd])⟩
   ·have HN:Hid (Lz.aX s.data.toList false=.er 70):=by show _=_;rw[HP.out];rfl
    go_wp2
    go_ret2
    rw[HN.out];exact jH (d:=0) av rfl (by omega)
  ·have HP:Hid (Lz.aX s.data.toList true=Lz.eE s.data.toList):=by
    show _=_;unfold Lz.aX;rw[if_neg Lk];rfl
   have cD:=Eu s hs w hE;generalize Lz.eE s.data.toList=r at cD HP;have CD:=Ih cD;clear cD Lk;go_enter Tryz.func268,Tryz.ntmps268
   go_wp2_with fail
   refine(CP.out _).mono ?_;rintro e w' ⟨rfl,rfl⟩
   go_wp2_with fail
   refine(CD.out).mono ?_;rintro e w1 ⟨av,dH⟩;cases r with
   | ok t=>
     obtain⟨u,rfl,hu⟩:=dH
     go_wp2
     go_ret2
     rw[HP.out];exact⟨av,u,rfl,hu⟩
   | er n=>
     obtain⟨v,dd,Xr,rfl,rK⟩:=dH;have DS:=Ih rK;clear rK
     go_wp2
     go_ret2
     rw[HP.out];exact⟨av,v,dd,Xr,rfl,DS.out⟩
 ·have Lk:s.data.toList[0]? =some 91:=of_decide_eq_true Hq.out.symm;have AG:0<s.size:=by rw[<-ac];exact(List.getElem?_eq_some_iff.1 Lk).1
  have HP:Hid (Lz.aX s.data.toList special=if s.data.toList.length<2\/s.data.toList.getLast? ≠some 93 then .er 72 else Lz.ofO 72 ((Lz.jw ((s.data.toList.drop 1).dropLast)).map fun a=>[91]++Lz.eN a++[93])):=by
   show _=_;unfold Lz.aX;rw[if_pos Lk]
  by_cases h2:s.size<2
  ·have HN:Hid (Lz.aX s.data.toList special=.er 72):=by show _=_;rw[HP.out,if_pos (Or.inl (by rw[ac];exact h2))]
   have GG:(s.size:Int)<2:=by omega
   have IP:decide ((s.size:Int)<2)=true:=decide_eq_true GG;go_enter Tryz.func268,Tryz.ntmps268
   go_wp2_with fail
   refine(CP.out _).mono ?_;rintro e w' ⟨rfl,rfl⟩
   go_wp2
   go_ret2
   rw[HN.out];exact jH (d:=0) (Below.refl _ _) rfl (by omega)
  ·have GG:¬(s.size:Int)<2:=by omega
   have IP:decide ((s.size:Int)<2)=false:=decide_eq_false GG;obtain⟨k,hk⟩:∃k,k=s.size-1:=⟨_,rfl⟩;have tM:(s.size:Int)-1=(k:Int):=by omega
   have Sv:k<s.size:=by omega
   have cf:(k:Int)<s.size:=by omega
   have AI:(0:Int)<=k:=by omega
   have TW:(1:Int)<=k:=by omega
   have hk4:(k:Int)<=s.size:=by omega
   have iK:s.data.toList.getLast? =some s[k]:=by
    rw[List.getLast?_eq_getElem?,ac,<-hk];exact aB Sv
   have Hk:=Ih hk;have DF:=Ih iK;clear hk iK;by_cases XD:s[k]=93
   ·have ab2:((s[k].toNat:Int) != 93)=false:=by rw[XD];rfl
    have AA:Hid ((s.extract 1 k).data.toList=(s.data.toList.drop 1).dropLast):=by
     show _=_;rw[Lib.extract_data,List.dropLast_eq_take,List.length_drop,ac,Hk.out]
    have acm:(s.extract 1 k).size<=900000:=by have:=bg s 1 k;omega
    have HN:Hid (Lz.aX s.data.toList special=Lz.ofO 72 ((Lz.jw (s.extract 1 k).data.toList).map fun a=>[91]++Lz.eN a++[93])):=by
     show _=_;rw[HP.out,if_neg (by rw[ac,DF.out,XD];simp;omega),AA.out]
    have cX:=Ac (s.extract 1 k) (by omega) w hE;have lV:=fun a=>Lz.zF (s:=(s.extract 1 k).data.toList) (a:=a);generalize Lz.jw (s.extract 1 k).data.toList=o at cX HN lV;have CX:=Ih cX;have R5:=Ih lV;clear cX lV XD HP h2 AA acm;go_enter Tryz.func268,Tryz.ntmps268
    go_wp2_with fail
    refine(CP.out _).mono ?_;rintro e w' ⟨rfl,rfl⟩
    go_wp2_with fail
    refine(CX.out).mono ?_;rintro e w1 ⟨av,dH⟩;have i9:∀o,(w1.alloc o).heap[w1.heap.size]? =some o:=fun o=>heap_alloc_new w1 o;have OP:=Ih i9;clear i9;cases o with
    | none=>
      obtain⟨v,rfl,rK⟩:=dH;have aaE:=fun o=>rK.below ((Below.refl _ w1).alloc (Nat.le_refl _) o);have DS:=Ih rK;have Z5:=Ih aaE;clear aaE;obtain⟨p,u,rfl,_,_,_⟩:=rK;have kJ:Hid (Lz.aX s.data.toList special=.er 72):=by show _=_;rw[HN.out];rfl
      clear HN
      go_upto_region 5 with(refine iS rfl _ _ rfl w1.heap.size rfl z8 rfl tY rfl _ (OP.out _) rfl ?_)
      generalize DV:(w1.alloc _).setRow w1.heap.size z8=w2;have AE:dv w2 72 1 (.iface 321 (.pointer (some ⟨p,0,none⟩))):=by rw[<-DV];exact(Z5.out _).setRow (OP.out (.cells z8 326)) z8
      have aE:Below w.heap.size w w2:=by rw[<-DV];exact below_setRow (av.alloc av.size _) av.size _
      clear DV DS Z5 OP CX
      go_wp2
      go_ret2
      rw[kJ.out];exact jH (n:=72) (d:=1) aE AE (by omega)
    | some a=>
      obtain rfl:=dH;obtain⟨ha8,wD⟩:=R5.out a rfl;have kJ:Hid (Lz.aX s.data.toList special=.ok ([91]++Lz.eN a++[93])):=by show _=_;rw[HN.out];rfl
      have kK:=M6 a ha8 wD;have cT:=fun W hW=>M0 a ha8 wD W hW;unfold EJ at cT;unfold EJ;obtain⟨cs,iF⟩:∃cs,cs=(a.map fun n:Nat=>Value.int .u16 (n:Int)).toArray:=⟨_,rfl⟩;rw[<-iF]at cT;rw[<-iF];have TO:cs.size=8:=by rw[iF];simp[ha8]
      have iE:cs.all (·.oneCell')=true:=by rw[iF];simp[Value.oneCell']
      have hci:(Tryz.prog.info? 326).map (·.size)=some cs.size:=by rw[i4,TO]
      have CT:=Ih cT;have Hc8:=Ih TO;have Hc1:=Ih iE;have Hci:=Ih hci;clear cT TO iE hci ha8 wD iF R5 HN
      go_upto_region 5 with(refine iS rfl _ _ rfl w1.heap.size rfl cs Hc8.out Hc1.out rfl _ (OP.out _) rfl ?_)
      generalize DV:(w1.alloc _).setRow w1.heap.size cs=w2;have iG:w2.heap[w1.heap.size]? =some (.cells cs 326 (0,0)):=by rw[<-DV];exact setRow_heap _ _ _ _ _ _ (OP.out _)
      have aE:Below w.heap.size w w2:=by rw[<-DV];exact below_setRow (av.alloc av.size _) av.size _
      have Lj:=Ih iG;clear DV OP CX iG
      go_wp2_with (refine wpList_load_row rfl 326 _ rfl w1.heap.size rfl 326 _ (0,0) _ Lj.out Tryz.underlying326 rfl Hci.out ?_)
      with_reducible refine(CT.out _ (hE.below aE)).mono ?_
      rintro e w3 ⟨u,rfl,hu,bj⟩;have XU:u.size<=100:=by rw[<-ac,hu.out];exact kK
      have iz:¬(9223372036854775807<1+u.size):=by omega
      have GD:¬(9223372036854775807<1+u.size+1):=by omega
      go_wp2
      go_ret2
      rw[kJ.out];refine⟨ae aE bj,_,rfl,Ih ?_⟩;rw[hX,hX,hu.out]
   ·have ab2:((s[k].toNat:Int) != 93)=true:=by
     have:((s[k].toNat:Int)==93)=false:=(tT s[k] 93).trans (beq_eq_false_iff_ne.2 XD);simp only[bne,this];rfl
    have HN:Hid (Lz.aX s.data.toList special=.er 72):=by
     show _=_;rw[HP.out,if_pos];right;rw[DF.out];intro h;exact XD (Option.some.inj h)
    clear XD;go_enter Tryz.func268,Tryz.ntmps268
    go_wp2_with fail
    refine(CP.out _).mono ?_;rintro e w' ⟨rfl,rfl⟩
    go_wp2
    go_ret2
    rw[HN.out];exact jH (d:=0) (Below.refl _ _) rfl (by omega)
def aa6:Lz.Res->List UInt8
 | .ok t=>t
 | .er _=>[]
def resE:Lz.Res->Nat
 | .ok _=>0
 | .er n=>n
def RG (r:Lz.Res) (w:World) (e:Ending) (w':World):Prop:=
 ∃u:ByteArray,e=.returned (.tuple #[.string u,.int .i64 (resE r:Nat)])/\Hid (u.data.toList=aa6 r)/\Below w.heap.size w w'
theorem Fq (s:ByteArray) (special:Bool) (hs:s.size<=900000) (Pq:special=false->s.data.toList[0]? ≠some 91->Qj s) (w:World) (hE:eU w):Calls Tryz.prog 234 #[.string s,.bool special] w (RG (Lz.aX s.data.toList special) w):=by
 have cH:=Jz s special hs Pq w hE;generalize Lz.aX s.data.toList special=r at cH⊢;have CH:=Ih cH;clear cH Pq;go_enter Tryz.func234,Tryz.ntmps234
 go_wp2_with fail
 refine(CH.out).mono ?_;rintro e w1 ⟨av,dH⟩;cases r with
 | ok t=>
   obtain⟨u,rfl,hu⟩:=dH
   go_wp2
   go_ret2
   exact⟨u,rfl,hu,av⟩
 | er n=>
   obtain⟨v,d,hd,rfl,rK⟩:=dH;have cC:=Ng d hd (n:Int) v w1 (hE.below av) rK;have CC:=Ih cC;clear cC;obtain⟨t0,x0,rfl⟩:=rK.iface
   go_wp2_with fail
   refine(CC.out).mono ?_;rintro e w2 ⟨rfl,aE⟩
   go_wp2
   go_ret2
   exact⟨⟨#[]⟩,rfl,Ih rfl,ae av aE⟩
end Go.Proofs.YtibcmemcfjhgmaaGreatDoor
namespace Lz
open Go
theorem lR (s:ByteArray) (j:Nat) (h:j<s.size):(s.get! j).toNat=(s[j]'h).toNat:=by
 congr 1;show s.data[j]! =_;rw[getElem!_pos s.data j h];rfl
theorem Di (s:ByteArray) (pos:Nat) (h:pos<s.size) (hb:128<=(s[pos]'h).toNat) (j:Nat) (h1:pos<=j) (h2:j<pos+(Utf8.decode s pos).2) (hj:j<s.size):128<=(s[j]'hj).toNat:=by
 rw[Lib.decode_at]at h2;have e0:=lR s pos h;by_cases hp:j=pos
 ·subst hp;exact hb
 rcases Lib.decodeN_shape (s.size-pos) (s.get! pos).toNat (s.get! (pos+1)).toNat (s.get! (pos+2)).toNat (s.get! (pos+3)).toNat with⟨h3,_⟩|⟨_,hn,c1,_,h3⟩|⟨_,hn,c1,c2,_,_,h3⟩|⟨_,hn,c1,c2,c3,_,_,h3⟩|h3
 ·omega
 ·rw[h3]at h2;simp only at h2;obtain rfl:j=pos+1:=by omega
  have:=lR s (pos+1) hj;omega
 ·rw[h3]at h2;simp only at h2;obtain rfl|rfl:j=pos+1\/j=pos+2:=by omega
  ·have:=lR s (pos+1) hj;omega
  ·have:=lR s (pos+2) hj;omega
 ·rw[h3]at h2;simp only at h2;obtain rfl|rfl|rfl:j=pos+1\/j=pos+2\/j=pos+3:=by omega
  ·have:=lR s (pos+1) hj;omega
  ·have:=lR s (pos+2) hj;omega
  ·have:=lR s (pos+3) hj;omega
 ·rw[h3]at h2;simp only at h2;omega
theorem uf (s:ByteArray) (pos:Nat):Utf8.valid ((Utf8.decode s pos).1:Int)=true:=by
 have aL:(s.get! pos).toNat<256:=(s.get! pos).toNat_lt;have:=Lib.decodeN_valid (s.size-pos) (s.get! pos).toNat (s.get! (pos+1)).toNat (s.get! (pos+2)).toNat (s.get! (pos+3)).toNat aL;rw[<-Lib.decode_at]at this;rw[validRune_eq];unfold validRune;rw[decide_eq_true_eq];omega
theorem Db (q:UInt8->Bool) (l:Bs) (pos:Nat):∀k,(∀j b,pos<=j->j<pos+k->l[j]? =some b->q b=false)->(l.drop pos).any q=(l.drop (pos+k)).any q
 | 0,_=>rfl
 | k+1,h=>by
   rw[Db q l pos k fun j b h1 h2 hj=>h j b h1 (by omega) hj];by_cases hl:pos+k<l.length
   ·rw[List.drop_eq_getElem_cons hl,List.any_cons,h (pos+k) l[pos+k] (by omega) (by omega) (List.getElem?_eq_getElem hl)];rfl
   ·rw[List.drop_eq_nil_of_le (by omega),List.drop_eq_nil_of_le (by omega)]
end Lz
namespace Go.Proofs.YtibcmemcfjhgmaaGreatDoor
open Go.RowKit
theorem xg (ch:ByteArray) (ha:∀c∈ch.data.toList,c.toNat<128) (w:World):Calls Tryz.prog 232 #[.string ch,.int .i32 65533] w (Jp (-1) w):=by
 have Ha:=Ih ha;clear ha;go_enter Tryz.func232,Tryz.ntmps232
 go_wp2
 go_loopg [] ch.size (fun gf wx=>∃pos:Nat,wx.heap[w.heap.size]? =some (.stringIter ch pos)/\Below w.heap.size w wx/\ch.size<=pos+gf)
 case atStart=>exact⟨0,World.iter_heap w ch 0,(Below.refl _ w).alloc (Nat.le_refl _) _,by omega⟩
 case round=>
  obtain⟨pos,hit,aC,hfu⟩:=hrel;by_cases lk:pos<ch.size
  ·obtain⟨g',rfl⟩:∃g',gk=g'+1:=⟨gk-1,by omega⟩;have jE:∀ty,(Instr.next (.pointer (some ⟨w.heap.size,0,none⟩)) true ty).run Tryz.prog wr=_:=fun ty=>Lib.run_next_any_at wr w.heap.size ch pos ty hit lk;have R2:(ch[pos]'lk).toNat<128:=Ha.out _ (by rw[List.mem_iff_getElem?];exact⟨pos,aB lk⟩);rw[decode_ascii ch pos lk R2]at jE;have tm:=Lib.iterAt_heap wr w.heap.size ch pos (pos+1) hit;have eC:=Lib.below_iterAt aC (k:=w.heap.size) (Nat.le_refl _) ch (pos+1);generalize wr.iterAt w.heap.size ch (pos+1)=W at jE tm eC;have du:(((ch[pos]'lk).toNat:Int)==65533)=false:=beq_eq_false_iff_ne.2 (by omega);generalize (ch[pos]'lk).toNat=R at jE du;clear R2
   go_wp2
   go_roundg g'
   case measure=>omega
   case rel=>exact⟨pos+1,tm,eC,by omega⟩
  ·have jE:∀ty,(Instr.next (.pointer (some ⟨w.heap.size,0,none⟩)) true ty).run Tryz.prog wr=_:=fun ty=>Lib.run_next_end_at wr w.heap.size ch pos ty hit lk
   go_wp2
   go_ret;exact⟨rfl,aC⟩
theorem CJ (r:Int) (w:World):Calls Tryz.prog 266 #[.int .i32 r] w fun e w'=>e=.returned (.bool (Lib.validRune r))/\w=w':=(Tryz.utf8_ValidRune r w).mono fun _ _ ⟨h1,h2⟩=>⟨h1,h2.symm⟩
theorem vv (ch:ByteArray) (a b:Nat) (ha:∀c∈ch.data.toList,c.toNat<128) (c:UInt8) (hc:128<=c.toNat):Lib.indexByte (ch.extract a b).data.toList c= -1:=by
 apply Lz.kS
 intro h;have:=ha c (mem_extract h);omega
theorem wW (ch:ByteArray) (ha:∀c∈ch.data.toList,c.toNat<128) (r:Int) (R2:128<=r) (hr:Utf8.valid r=true) (du:r≠65533) (w:World):Calls Tryz.prog 232 #[.string ch,.int .i32 r] w (Jp (-1) w):=by
 have hv:Lib.validRune r=true:=by
  show validRune r=true;rw[<-validRune_eq];exact hr
 obtain⟨jC,AE,Sg⟩:=encode_facts r hr R2;have acM:(r==65533)=false:=beq_eq_false_iff_ne.2 du;have pA:(0:Int)<=r:=by omega
 have i9:¬r<128:=by omega
 have ac0:decide (r<128)=false:=decide_eq_false i9;have cV:=CJ r w;rw[hv]at cV;have CV:=Ih cV;have Ha:=Ih ha;clear cV hv hr du ha;have kL:∀W,(convert 21 9 (.int .i32 r)).run Tryz.prog W=.ok (.string (Utf8.encode r)) W:=fun W=>run_convert_int_string W 21 9 .i32 r (by rw[Tryz.underlying21];rfl) Tryz.underlying9;generalize Utf8.encode r=rs at jC AE Sg kL;obtain⟨k,hk⟩:∃k,k=rs.size-1:=⟨_,rfl⟩;have Sv:k<rs.size:=by omega
 have hkI:(rs.size:Int)-1=(k:Int):=by omega
 have TW:k<=3:=by omega
 have h8:128<=(rs[k]'Sv).toNat:=by subst hk;exact Sg Sv
 clear hk jC AE Sg;have AI:(0:Int)<=(k:Int):=by omega
 have hkr:(k:Int)<(rs.size:Int):=by omega
 go_enter Tryz.func232,Tryz.ntmps232
 go_wp2_with fail
 refine(CV.out).mono ?_;rintro e w' ⟨rfl,rfl⟩;by_cases hkc:k<ch.size
 ·have abB:(k:Int)<(ch.size:Int):=by omega
  have Li:(((ch[k]'hkc).toNat:Int) != ((rs[k]'Sv).toNat:Int))=true:=by
   have:=Ha.out (ch[k]'hkc) (by rw[List.mem_iff_getElem?];exact⟨k,aB hkc⟩)
   simp;omega
  have hib:=vv ch (k+1) ch.size Ha.out (rs[k]'Sv) h8;have cI:=fun W=>kj (ch.extract (k+1) ch.size) (rs[k]'Sv) W;rw[hib]at cI;have CI:∀W,Calls Tryz.prog 129 #[.string (ch.extract (k+1) ch.size),.int .u8 ((rs[k]'Sv).toNat:Int)] W fun e w'=>e=.returned (.int .i64 (-1))/\w'=W:=fun W=>(cI W).mono fun _ _ ⟨h1,h2⟩=>⟨h1,h2.symm⟩;have me:IntKind.i64.wrap ((k:Int)+1)=(k:Int)+1:=IntWalk.i64_in _ (by omega);have tM:(0:Int)<=(k:Int)+1:=by omega
  have cf:(k:Int)+1<=(ch.size:Int):=by omega
  have hk4:((k:Int)+1).toNat=k+1:=by omega
  have HCI:=Ih CI;clear CI cI hib h8
  go_wp2_with fail
  go_step3
  go_wp2_with fail
  refine wp_loop_rounds 1 ?_;rw[rounds_succ]
  go_wp2_with fail
  go_step3
  go_wp2_with fail
  go_quiet (fail)
  have av:Below w.heap.size w (w.drewN nq):=below_drewN (Below.refl _ w) nq;generalize w.drewN nq=wa at av⊢
  go_wp2_with fail
  go_quiet ((go_at_call 129;exact Calls.quiet_of_same (HCI.out _)))
  go_wp2
  rw[Exit.noGoto_ret];go_ret;exact⟨rfl,below_drewN av _⟩
 ·have abB:¬(k:Int)<(ch.size:Int):=by omega
  clear h8
  go_wp2_with fail
  go_step3
  go_wp2_with fail
  refine wp_loop_rounds 1 ?_;rw[rounds_succ]
  go_wp2
  first |rw[Exit.noGoto_ret]|skip
  go_ret;exact⟨rfl,Below.refl _ _⟩
theorem oo (c:UInt8):∀l:List UInt8,decide (0<=Lib.indexByte l c)=l.contains c
 | []=>rfl
 | b::l=>by
   have ih:=oo c l;have AS:=Lib.indexByte_ge l c;rw[Lib.indexByte,List.contains_cons,<-ih];by_cases h:b=c
   ·subst h;simp
   ·have h1:(b==c)=false:=beq_eq_false_iff_ne.2 h;have h2:(c==b)=false:=beq_eq_false_iff_ne.2 fun e=>h e.symm;rw[h1,h2,Bool.false_or,if_neg (by simp),Bool.eq_iff_iff,decide_eq_true_eq,decide_eq_true_eq];by_cases h3:Lib.indexByte l c= -1
    ·rw[h3];simp
    ·rw[if_neg (by simpa using h3)];omega
theorem ot (ch:ByteArray) (ha:∀c∈ch.data.toList,c.toNat<128) (r:Nat) (hr:Utf8.valid (r:Int)=true) (w:World):
  Calls Tryz.prog 232 #[.string ch,.int .i32 (r:Int)] w fun e w'=>∃i:Int,e=.returned (.int .i64 i)/\Hid (decide (0<=i)=(decide (r<128)&&ch.data.toList.contains (UInt8.ofNat r)))/\Below w.heap.size w w':=by
 rcases Nat.lt_or_ge r 128 with h|h
 ·refine(Tryz.strings_IndexRune_ascii ch (r:Int) w (by omega) (by omega)).mono ?_;rintro e w' ⟨he,rfl⟩;refine⟨_,he,Ih ?_,Below.refl _ _⟩;rw[show((r:Int)).toNat.toUInt8=UInt8.ofNat r from rfl,decide_eq_true h,Bool.true_and];exact oo _ _
 ·by_cases h2:r=65533
  ·subst h2;refine(xg ch ha w).mono ?_;rintro e w' ⟨he,hb⟩;exact⟨-1,he,Ih (by rfl),hb⟩
  ·refine(wW ch ha (r:Int) (by omega) hr (by omega) w).mono ?_;rintro e w' ⟨he,hb⟩;exact⟨-1,he,Ih (by rw[decide_eq_false (show ¬r<128 by omega)];rfl),hb⟩
theorem zh (s ch:ByteArray) (h8:s.size<=8) (h2:2<=ch.size) (ha:∀c∈ch.data.toList,c.toNat<128) (w:World):
  Calls Tryz.prog 233 #[.string s,.string ch] w fun e w'=>∃i:Int,e=.returned (.int .i64 i)/\Hid (decide (0<=i)=s.data.toList.any ch.data.toList.contains)/\Below w.heap.size w w':=by
 have he:=aG (s:=ch) (by omega);have iE:((ch.size:Int)==1)=false:=beq_eq_false_iff_ne.2 (by omega);have cU:=fun W=>Tryz.strings_shouldUseASCIISet (s.size:Int) W;rw[decide_eq_false (show ¬(8:Int)<(s.size:Int) by omega)]at cU;have CU:=Ih fun W=>(cU W).mono fun _ _ (h:_/\_)=>(⟨h.1,h.2.symm⟩:_/\W=_);have Ha:=Ih ha;clear cU ha;go_enter Tryz.func233,Tryz.ntmps233
 go_wp2_with fail
 refine(CU.out _).mono ?_;rintro e w' ⟨rfl,rfl⟩
 go_wp2
 go_loopg [] s.size (fun gf wx=>∃pos:Nat,wx.heap[w.heap.size]? =some (.stringIter s pos)/\Below w.heap.size w wx/\s.size<=pos+gf/\Hid (s.data.toList.any ch.data.toList.contains=(s.data.toList.drop pos).any ch.data.toList.contains))
 case atStart=>exact⟨0,World.iter_heap w s 0,(Below.refl _ w).alloc (Nat.le_refl _) _,by omega,Ih (by rw[List.drop_zero])⟩
 case round=>
  obtain⟨pos,hit,aC,hfu,hS⟩:=hrel;by_cases lk:pos<s.size
  ·obtain⟨g',rfl⟩:∃g',gk=g'+1:=⟨gk-1,by omega⟩;have jE:∀ty,(Instr.next (.pointer (some ⟨w.heap.size,0,none⟩)) true ty).run Tryz.prog wr=_:=fun ty=>Lib.run_next_any_at wr w.heap.size s pos ty hit lk;have hwd:=Lib.width_pos s pos;have qJ:=Lz.uf s pos
   have dB:Hid ((s.data.toList.drop pos).any ch.data.toList.contains=((decide ((Utf8.decode s pos).1<128)&&ch.data.toList.contains (UInt8.ofNat (Utf8.decode s pos).1))||(s.data.toList.drop (pos+(Utf8.decode s pos).2)).any ch.data.toList.contains)):=by
    show _=_;rcases Nat.lt_or_ge (s[pos]'lk).toNat 128 with h1|h1
    ·rw[decode_ascii s pos lk h1]
     have hd:s.data.toList.drop pos=s[pos]::s.data.toList.drop (pos+1):=by
      rw[List.drop_eq_getElem_cons (show pos<s.data.toList.length from lk)];rfl
     rw[hd,List.any_cons,decide_eq_true h1]
     simp
    ·have hr:=Lz.tC s pos lk h1;rw[decide_eq_false (by omega),Bool.false_and,Bool.false_or];refine Lz.Db _ _ _ _ ?_;intro j b h3 h4 hj;have mq:j<s.size:=by rw[<-ac];exact(List.getElem?_eq_some_iff.1 hj).1
     have h5:=Lz.Di s pos lk h1 j h3 h4 mq;rw[aB mq]at hj;rw[Option.some.inj hj]at h5;rw[Bool.eq_false_iff];intro hm;have:=Ha.out b (List.contains_iff_mem.1 hm);omega
   generalize hR:(Utf8.decode s pos).1=R at jE qJ dB;generalize hK:(Utf8.decode s pos).2=K at jE hwd dB;clear hR hK;have tm:=Lib.iterAt_heap wr w.heap.size s pos (pos+K) hit;have eC:=Lib.below_iterAt aC (k:=w.heap.size) (Nat.le_refl _) s (pos+K);have DD:w.heap.size<(wr.iterAt w.heap.size s (pos+K)).heap.size:=(Array.getElem?_eq_some_iff.1 tm).1;generalize wr.iterAt w.heap.size s (pos+K)=W at jE tm eC DD;have CI:=Ih (ot ch Ha.out R qJ W);have Wn:=Ih tm;clear qJ tm hit
   go_wp2_with fail
   refine(CI.out).mono ?_;rintro e w2 ⟨i,rfl,hi,aE⟩;have VT:Hid (w2.heap[w.heap.size]? =some (.stringIter s (pos+K))):=by show _=_;rw[aE.block _ DD];exact Wn.out
   have gw:Below w.heap.size w w2:=eC.trans (aE.mono eC.size);by_cases j6:0<=i
   ·have HD:Hid (s.data.toList.any ch.data.toList.contains=true):=by
     show _=_;have h1:=hi.out;rw[decide_eq_true j6]at h1;rw[hS.out,dB.out,<-h1];rfl
    go_wp2
    go_ret;exact⟨(pos:Int),rfl,Ih (by rw[HD.out];exact decide_eq_true (by omega)),gw⟩
   ·have HD:Hid (s.data.toList.any ch.data.toList.contains=(s.data.toList.drop (pos+K)).any ch.data.toList.contains):=by
     show _=_;have h1:=hi.out;rw[decide_eq_false j6]at h1;rw[hS.out,dB.out,<-h1];rfl
    go_wp2
    go_roundg g'
    case measure=>omega
    case rel=>exact⟨pos+K,VT.out,gw,by omega,HD⟩
  ·have jE:∀ty,(Instr.next (.pointer (some ⟨w.heap.size,0,none⟩)) true ty).run Tryz.prog wr=_:=fun ty=>Lib.run_next_end_at wr w.heap.size s pos ty hit lk
   have HD:Hid (s.data.toList.any ch.data.toList.contains=false):=by
    show _=_;rw[hS.out,List.drop_eq_nil_of_le (by rw[ac];omega)];rfl
   go_wp2
   go_ret;exact⟨-1,rfl,Ih (by rw[HD.out];rfl),aC⟩
theorem Ia:(Tryz.prog.info? 215).map (fun i=>(i.zero,i.size))=some (some (.agg (Array.replicate 256 (.bool false))),256):=by kernel_rfl
theorem zH (s ch:ByteArray) (hs:s.size<=1073741824) (h2:2<=ch.size) (hz:ch.size<=1000) (ha:∀c∈ch.data.toList,c.toNat<128) (w:World):
  Calls Tryz.prog 233 #[.string s,.string ch] w fun e w'=>∃i:Int,e=.returned (.int .i64 i)/\Hid (decide (0<=i)=s.data.toList.any ch.data.toList.contains)/\Below w.heap.size w w':=by
 by_cases h8:s.size<=8
 ·exact zh s ch h8 h2 ha w
 ·refine(Tryz.strings_IndexAny_long (zero_of_info Ia).1 s ch w h2 (by omega) (by omega) (by omega) (fun j b hj=>ha b (List.mem_of_getElem? hj))).mono ?_;rintro e w' ⟨he,hw⟩;refine⟨_,he,Ih ?_,?_⟩
  ·have:=Lz.vO s.data.toList ch.data.toList;unfold Lib.containsAny at this;exact this
  ·rw[hw];exact((Below.refl _ w).alloc (Nat.le_refl _) _).alloc (by simp) _
theorem D7:∀c∈lJ.data.toList,c.toNat<128:=by decide
theorem NC (s:ByteArray) (hs:s.size<=1073741824):Qj s:=by
 intro W _;have cI:=Ih (zH s lJ hs (by decide) (by decide) D7 W);have hB:s.data.toList.any lJ.data.toList.contains=s.data.toList.any Lz.ei.contains:=rfl;rw[hB]at cI;generalize s.data.toList.any Lz.ei.contains=q at cI⊢;clear hB;go_enter Tryz.func297,Tryz.ntmps297
 go_wp2_with fail
 refine(cI.out).mono ?_;rintro e w1 ⟨i,rfl,hi,hb⟩;have Hi:=Ih hi.out.symm;clear hi
 go_wp2
 go_ret;exact⟨by rw[Hi.out];rfl,hb⟩
end Go.Proofs.YtibcmemcfjhgmaaGreatDoor
