/-
  hosts.row: the pieces that are written without two colons.
-/
import Derived.Test.YtlcbhacofagedaaGreatDoorY13
import Derived.Deep.RegionHeld3
import Derived.Deep.AppendLies
import Derived.Deep.DrawnRows
set_option maxHeartbeats 2000000
set_option maxRecDepth 100000
namespace Lz
open Go
def pV (x:Bs) (k m:Nat):Prop:=(∀c∈x.take k,(dx c).isSome=true)/\(k<=4->(x.take k).foldlM ri 0=some m/\m<16^k)/\m<65536
theorem zt (x:Bs):pV x 0 0:=⟨by simp,fun _=>⟨rfl,by simp⟩,by omega⟩
theorem zn {x:Bs} {k m d:Nat} {c:UInt8} (h:pV x k m) (hc:x[k]? =some c) (hd:dx c=some d):pV x (k+1) (m*16%65536||| d):=by
 obtain⟨h1,h2,h3⟩:=h;have ZF:=je c d hd;have hor:m*16%65536||| d=m*16%65536+d:=nat_join 4 _ _ (by omega) ZF
 have gE:x.take (k+1)=x.take k++[c]:=by rw[List.take_add_one,hc];rfl
 rw[hor];refine⟨fun y hy=>?_,fun hk=>?_,by omega⟩
 ·rw[gE]at hy;rcases List.mem_append.1 hy with hy|hy
  ·exact h1 y hy
  ·rw[List.mem_singleton]at hy;rw[hy,hd];rfl
 ·obtain⟨h4,h5⟩:=h2 (by omega);have hp:16^k<=16^3:=Nat.pow_le_pow_right (by omega) (by omega);rw[gE,List.foldlM_append,h4,Nat.mod_eq_of_lt (by omega)];refine⟨?_,by rw[Nat.pow_succ];omega⟩
  simp[ri,hd]
theorem Kx {x:Bs} {c:UInt8} (hc:c∈x) (hn:dx c=none) (n:Nat):x.foldlM ri n=none:=by
 obtain⟨a,b,rfl⟩:=List.append_of_mem hc;rw[List.foldlM_append];cases a.foldlM ri n with
 | none=>rfl
 | some m=>simp[ri,hn]
theorem uK {x:Bs} {c:UInt8} (hc:c∈x) (hn:dx c=none):eD x=none:=by
 unfold eD;split
 ·rfl
 ·exact Kx hc hn 0
theorem Eb {x:Bs} {m:Nat} (h:pV x x.length m):eD x=if x=[]\/4<x.length then none else some m:=by
 unfold eD;split
 ·rfl
 ·rename_i hx;have:=(h.2.1 (by omega)).1;rw[List.take_length]at this;exact this
end Lz
namespace Go.Proofs.YtlcbhacofagedaaGreatDoor
open Go.RowKit
attribute [local go_sem ↓] Go.wp_at_zero Go.wp_at_succ
theorem J2 (n:Nat):bits .and .i64 (n:Int) 65535=((n%65536:Nat):Int):=by
 have aa6:(BitVec.ofInt 64 65535).toNat=2^16-1:=by decide
 have key:(BitVec.ofInt 64 (n:Int)&&& BitVec.ofInt 64 65535).toNat=((n:Int)%((2^64:Nat):Int)).toNat%2^16:=by
  rw[BitVec.toNat_and,BitVec.toNat_ofInt,aa6,Nat.and_two_pow_sub_one_eq_mod]
 show IntKind.i64.wrap ((BitVec.ofInt 64 (n:Int)&&& BitVec.ofInt 64 65535).toNat:Nat)=_;rw[key,IntKind.wrap_i64];omega
theorem MH (a b:Nat) (ha:a<65536) (hb:b<65536):bits .or .i64 (a:Int) (b:Int)=((a||| b:Nat):Int):=by
 have hx:a||| b<2^16:=Nat.or_lt_two_pow (by omega) (by omega)
 show IntKind.i64.wrap ((BitVec.ofInt 64 (a:Int)||| BitVec.ofInt 64 (b:Int)).toNat:Int)=_;rw[BitVec.toNat_or,ofInt_u64 a (by omega),ofInt_u64 b (by omega),IntKind.wrap_i64];omega
theorem Qu:(Tryz.prog.info? 228).map (fun i=>(i.zero,i.size,i.bytes))=some (some (.int .u16 0),1,2):=by kernel_rfl
def dK (l:List Nat):List Value:=l.map fun n:Nat=>Value.int .u16 (n:Int)
theorem Kg (l:List Nat) (n:Nat):dK l++[.int .u16 (n:Int)]=dK (l++[n]):=by simp[dK]
def Yo (o:Option (List Nat)) (w:World) (e:Ending) (w':World):Prop:=
 Below w.heap.size w w'/\match o with
  | some l=>∃v base,e=.returned (.tuple #[v,.nilIface])/\w.heap.size<=base/\w'.ownsRow base 228 1 v l.length (dK l)
  | none=>∃v,e=.returned (.tuple #[.slice none 0 0,v])/\dE w' 72 1 v
theorem q9 {w wx:World} {s:ByteArray} {t:TypeId} {fr:Nat×Nat} (hb:Below w.heap.size w wx):
  Yo none w (.returned (.tuple #[.slice none 0 0,.iface 225 (.pointer (some ⟨wx.heap.size,0,none⟩))])) (wx.alloc (.cells #[.string s,.iface 27 (.int .i64 72)] t fr)):=
 ⟨hb.alloc hb.size _,_,rfl,fM rfl⟩
theorem Es (s sub:ByteArray) (hs:s.size<=1073741824) (w:World) (hE:de w):Calls Tryz.prog 278 #[.string s,.string sub] w fun e w'=>e=.returned (.bool (Lib.contains s.data.toList sub.data.toList))/\w=w':=by
 obtain⟨m,hm⟩:=hE.ml;exact(Tryz.strings_Contains s sub m w (by omega) hm).mono fun _ _ ⟨h1,h2⟩=>⟨h1,h2.symm⟩
theorem qv (c:UInt8):∀s:List UInt8,Lib.contains s [c]=s.contains c
 | []=>rfl
 | b::s=>by
   have ih:=qv c s;unfold Lib.contains at ih⊢;by_cases h:b=c
   ·rw[Lz.kg h,h];simp
   ·rw[Lz.jA h,List.contains_cons,<-ih];have h1:(c==b)=false:=by simpa using fun e=>h e.symm
    have h2:=Lib.index_ge s [c];rw[h1,Bool.false_or,Bool.eq_iff_iff,decide_eq_true_eq,decide_eq_true_eq];by_cases h3:Lib.index s [c]= -1
    ·rw[h3];simp
    ·rw[if_neg (by simpa using h3)];omega
theorem aaI {w:World} {base:Nat} {v:Value} {p q r s:Nat} (h:w.ownsRow base 5 1 v 4 (u8n [p,q,r,s])):
  ∃g cap,v=.slice (some ⟨g,0,none⟩) 4 cap/\4<=cap/\base<=g/\g<w.heap.size/\w.cell? ⟨g,0,none⟩=some (.int .u8 p)/\w.cell? ⟨g,1,none⟩=some (.int .u8 q)/\w.cell? ⟨g,2,none⟩=some (.int .u8 r)/\w.cell? ⟨g,3,none⟩=some (.int .u8 s):=by
 rcases h.2 with⟨_,h0⟩|⟨g,cap,ir,rfl,TF,hg,RH,hcm,iV,gE⟩
 ·cases h0
 ·have hc:∀j x,(u8n [p,q,r,s])[j]? =some x->w.cell? ⟨g,j,none⟩=some x:=by
   intro j x hj;rw[<-gE,List.getElem?_take]at hj;split at hj
   ·simp only[World.cell?,hg];simpa using hj
   ·cases hj
  exact⟨g,cap,rfl,RH,TF,(Array.getElem?_eq_some_iff.1 hg).1,hc 0 _ rfl,hc 1 _ rfl,hc 2 _ rfl,hc 3 _ rfl⟩
theorem BC (w:World) (v v2:Value) (T:TypeId) (j:Nat) (u:Value) (h:[v,v2][j]? =some u):(w.alloc (.cells #[v,v2] T)).cell? ((⟨w.heap.size,0,none⟩:Addr).add j)=some u:=by
 rw[fa,World.cell?_alloc_mark];simpa using h
theorem Kt (w:World) (v v2:Value) (T:TypeId) (j:Nat) (u:Value) (h:[v,v2][j]? =some u):((w.alloc (.cells #[v,v2] T)).drew).cell? ((⟨w.heap.size,0,none⟩:Addr).add j)=some u:=BC w v v2 T j u h
theorem Mt (p q:Nat) (hp:p<256) (hq:q<256):bits .or .u16 ((p:Int)*256) (q:Int)=((p*256+q:Nat):Int):=by
 have h:=u16_or_nat (p*256) q (by omega) (by omega);rw[nat_join 8 (p*256) q (by omega) (by omega)]at h;rw[show(p:Int)*256=((p*256:Nat):Int) by omega];exact h
theorem GH (s:ByteArray) (last:Bool) (hs:s.size<=1048576) (w:World) (hE:de w):Calls Tryz.prog 263 #[.string s,.bool last] w (Yo (Lz.eM s.data.toList last) w):=by
 obtain⟨i0,hi,ig,fs,fk⟩:=info_parts Qu;by_cases hz:s.size=0
 ·have he:=ak hz
  have HS:Hid (Lz.eM s.data.toList last=some []):=by
   show _=_;unfold Lz.eM;rw[if_pos (List.length_eq_zero_iff.1 (show s.data.toList.length=0 by rw[aa];exact hz))]
  go_enter Tryz.func263,Tryz.ntmps263
  go_wp2
  go_ret2
  rw[HS.out];exact⟨Below.refl _ _,.slice none 0 0,w.heap.size,rfl,Nat.le_refl _,World.ownsRow_nil w w.heap.size 228 1⟩
 ·have he:=aj (s:=s) (by omega)
  have HS:Hid (Lz.eM s.data.toList last=Lz.gL last (Lz.ag 58 s.data.toList)):=by
   show _=_;unfold Lz.eM;rw[if_neg];intro h;exact hz (by rw[<-aa,h];rfl)
  have cS:=Ih (pn s 58 (by omega) w hE);go_enter Tryz.func263,Tryz.ntmps263
  go_wp2_with fail
  refine(cS.out).mono ?_;rintro e w1 ⟨xs,rfl,d7,iW⟩
  have bv:xs.length<=s.size+1:=by
   have h:=Lz.dz 58 s.data.toList;rw[<-d7.out,List.length_map,aa]at h;omega
  have dV:∀x,x∈xs->x.size<=s.size:=fun x hx=>dL d7.out hx;have aC:Below w.heap.size w w1:=by rw[iW.out];exact(Below.refl _ w).alloc (Nat.le_refl _) _
  have hT:fq w1 w.heap.size xs:=by
   refine⟨by rw[iW.out];simp,fun j x hj=>?_⟩;rw[iW.out];have:=World.cell?_alloc_mark w (xs.map Value.string).toArray 9 (0,0) j;rw[this]
   simp[hj]
  have HT:=Ih hT;have yD:=Ih dV
  have hB:Hid (Lz.eM s.data.toList last=Lz.gL last (xs.map (·.data.toList))):=by
   show _=_;rw[HS.out,d7.out]
  have DD:=aC.size;clear cS iW hT dV HS d7 he;have hst:=World.ownsRow_nil w1 w1.heap.size 228 1
  go_wp2_with fail
  go_loopw [6,22] (fun a i wr=>∃(j:Nat) (ls:List Nat),j<=xs.length/\i=.int .i64 j/\ls.length=j/\Hid (Lz.gL last (xs.map (·.data.toList))=(Lz.gL last ((xs.drop j).map (·.data.toList))).map (ls++·))/\wr.ownsRow w1.heap.size 228 1 a j (dK ls)/\Below w1.heap.size w1 wr) (fun _ i _=>xs.length-(intOf i).toNat)
  case atStart=>exact⟨0,[],Nat.zero_le _,rfl,rfl,by show _=_;simp,hst,Below.refl _ w1⟩
  case round=>
   clear hst;obtain⟨j,ls,hj,rfl,vK,hF,aQ,hb⟩:=hrel;have bi:=ac aC hb;have dV:=hb.size;have bZ:=Ih aQ;by_cases aN:j<xs.length
   ·obtain⟨x,hx⟩:∃x,xs[j]? =some x:=⟨_,List.getElem?_eq_getElem aN⟩;have oY:=(HT.out.below hb).cells _ _ hx;have o7:=yD.out x (List.mem_of_getElem? hx)
    have iS:xs.drop j=x::xs.drop (j+1):=by
     rw[List.drop_eq_getElem_cons aN];congr 1;have:=List.getElem?_eq_getElem aN;rw[hx]at this;exact(Option.some.inj this).symm
    obtain⟨q,hq⟩:∃q,q=(last&&decide (j+1=xs.length)&&x.data.toList.contains 46):=⟨_,rfl⟩
    have gU:Hid (Lz.gL last ((xs.drop j).map (·.data.toList))=if q then(Lz.fS x.data.toList).map fun b=>[b.getD 0 0*256+b.getD 1 0,b.getD 2 0*256+b.getD 3 0]
      else match Lz.eD x.data.toList with
       | none=>none
       | some n=>(Lz.gL last ((xs.drop (j+1)).map (·.data.toList))).map (n::·)):=by
     show _=_;rw[iS,List.map_cons,Lz.gL]
     have:((xs.drop (j+1)).map (·.data.toList)).isEmpty=decide (j+1=xs.length):=by
      rw[Bool.eq_iff_iff,List.isEmpty_iff,List.map_eq_nil_iff,List.drop_eq_nil_iff,decide_eq_true_eq];omega
     rw[this,<-hq];rfl
    have Hq:=Ih hq;clear hx iS aQ hq;obtain⟨cb,Pe⟩:∃cb,cb=Lib.contains x.data.toList [46]:=⟨_,rfl⟩;have cC:=fun W hW=>Es x ⟨#[46]⟩ (by omega) W hW;rw[show Lib.contains x.data.toList (ByteArray.data ⟨#[46]⟩).toList=cb from Pe.symm]at cC;have CC:=Ih cC;have Hcb:=Ih Pe;clear cC Pe
    go_upto_region 8 with fail
    go_cut [38] (fun s38 wx=>s38=.bool q/\wr=wx)
    case first=>
     cases last
     ·have HQ:Hid (q=false):=by show _=_;rw[Hq.out];rfl
      go_wp2_with fail
      go_meet;exact⟨by rw[HQ.out],rfl⟩
     ·by_cases sC:j+1=xs.length
      ·have Wr:((j:Int)==(xs.length:Int)-1)=true:=by simp;omega
       have HQ:Hid (q=cb):=by show _=_;rw[Hq.out,decide_eq_true sC,Hcb.out,qv];rfl
       go_wp2_with fail
       refine(CC.out _ (hE.below bi)).mono ?_;rintro e w' ⟨rfl,rfl⟩
       go_wp2_with fail
       go_meet;exact⟨by rw[HQ.out],rfl⟩
      ·have Wr:((j:Int)==(xs.length:Int)-1)=false:=by simp;omega
       have HQ:Hid (q=false):=by show _=_;rw[Hq.out,decide_eq_false sC];simp
       go_wp2_with fail
       go_meet;exact⟨by rw[HQ.out],rfl⟩
    case rest=>
     obtain⟨rfl,rfl⟩:=hcut;clear CC Hcb Hq;cases q
     ·have d6:Hid (Lz.gL last ((xs.drop j).map (·.data.toList))=match Lz.eD x.data.toList with
        | none=>none
        | some n=>(Lz.gL last ((xs.drop (j+1)).map (·.data.toList))).map (n::·)):=by
       show _=_;rw[gU.out];rfl
      clear gU
      have Pz:Hid (Lz.eD x.data.toList=none->Lz.eM s.data.toList last=none):=by
       show _->_;intro h;rw[hB.out,hF.out,d6.out,h];rfl
      go_wp2_with fail
      go_loop [12,72] (fun n k=>∃k' m:Nat,k'<=x.size/\n=.int .i64 m/\k=.int .i64 k'/\m<65536/\Hid (Lz.pV x.data.toList k' m)) (fun _ k=>x.size-(intOf k).toNat)
      case atStart=>exact⟨0,0,Nat.zero_le _,rfl,rfl,by omega,Ih (Lz.zt _)⟩
      case round=>
       obtain⟨k,m,hk,rfl,rfl,hm,hP⟩:=hrel;by_cases hkx:k<x.size
       ·have hg:=aw (s:=x) hkx;have cH:=fun W=>lj x[k] W;unfold BR Lz.il Lz.oK at cH;have jP:=iY x[k];unfold Lz.il at jP;have cw:=fun d=>Lz.zn (d:=d) hP.out hg;have ic:=fun h=>Lz.uK (List.mem_of_getElem? hg) h;generalize hxv:Lz.dx x[k]=xv at cH jP cw ic;have fQ:=Ih cw;have R5:=Ih ic;clear hg hxv cw ic;cases xv with
        | none=>
          have HN:=Ih (Pz.out (R5.out rfl))
          go_wp2_with fail
          refine(cH _).mono ?_;rintro e w' ⟨rfl,rfl⟩
          go_wp2
          go_ret2
          rw[HN.out];exact q9 bi
        | some d=>
          have kU:=Ih (fQ.out d rfl);have ZF:d<16:=jP
          have Zg:bits .and .i64 ((m:Int)*16) 65535=((m*16%65536:Nat):Int):=by
           rw[show(m:Int)*16=((m*16:Nat):Int) by omega];exact J2 _
          have tc:m*16%65536||| d<65536:=Nat.or_lt_two_pow (n:=16) (by omega) (by omega)
          have hor:bits .or .i64 ((m:Int)*16%65536) (d:Int)=((m*16%65536||| d:Nat):Int):=by
           rw[show(m:Int)*16%65536=((m*16%65536:Nat):Int) by omega];exact MH _ _ (by omega) (by omega)
          generalize m*16%65536||| d=z at hor kU tc
          go_wp2_with fail
          refine(cH _).mono ?_;rintro e w' ⟨rfl,rfl⟩
          go_wp2
          go_round
          case rel=>exact⟨k+1,_,by omega,rfl,by go_num,tc,kU⟩
          case measure=>simp[intOf];omega
       ·have Zs:k=x.size:=by omega
        have RJ:Hid (Lz.eD x.data.toList=if x.size=0\/4<x.size then none else some m):=by
         show _=_;have h:=hP.out;rw[Zs,<-aa]at h;rw[Lz.Eb h,aa];have:(x.data.toList=[])↔x.size=0:=by rw[<-aa,List.length_eq_zero_iff]
         simp only[this]
        clear hP Zs;by_cases j8:x.size=0
        ·have he:=ak j8;have HN:=Ih (Pz.out (by rw[RJ.out,if_pos (Or.inl j8)]))
         go_wp2
         go_ret2
         rw[HN.out];exact q9 bi
        ·have he:=aj (s:=x) (by omega);by_cases F8:4<x.size
         ·have HN:=Ih (Pz.out (by rw[RJ.out,if_pos (Or.inr F8)]))
          go_wp2
          go_ret2
          rw[HN.out];exact q9 bi
         ·have Lm:Hid (Lz.gL last (xs.map (·.data.toList))=(Lz.gL last ((xs.drop (j+1)).map (·.data.toList))).map ((ls++[m])++·)):=by
           show _=_;rw[hF.out,d6.out,RJ.out,if_neg (by omega)];simp only;cases Lz.gL last ((xs.drop (j+1)).map (·.data.toList))<;>simp
          clear RJ d6 hF Pz
          go_wp2_with (at_builtin;refine wpList_append_own _ rfl (.tmp 105) (.tmp 108) 261 rfl w1.heap.size 228 i0 (.int .u16 0) 1 2 Tryz.underlying261 hi ig fs fk rfl (by decide) _ _ _ rfl (bZ.out.alloc _) ⟨wr.heap.size,0,none⟩ 1 1 [.int .u16 (m:Int)] rfl rfl (aY _ _ _) (by simp[Value.oneCell']) (by unfold maxLen;omega) (by omega) (by simp;omega) ?_)
          intro v' w4 aE aV _;have ex:Below w1.heap.size w1 w4:=Below.grown1 hb bZ.out aV dV (Nat.le_refl _);rw[Kg]at aE;have fR:=Ih aE;clear aE aV
          go_wp2
          go_roundw
          case rel=>exact⟨j+1,ls++[m],by omega,by go_num,by simp[vK],Lm.out,fR.out,ex⟩
          case measure=>simp[intOf];omega
     ·have d6:Hid (Lz.eM s.data.toList last=(((Lz.fS x.data.toList).map fun b=>[b.getD 0 0*256+b.getD 1 0,b.getD 2 0*256+b.getD 3 0])).map (ls++·)):=by
       show _=_;rw[hB.out,hF.out,gU.out];rfl
      clear gU hF hB;have cB:=fun W hW=>Jb x (by omega) W hW;have Of:=fun l h=>(Lz.xG (x:=x.data.toList) (l:=l) h).2;generalize Lz.fS x.data.toList=o at d6 cB Of;have Xn:=Ih Of;clear Of;have CB:=Ih cB;clear cB
      go_wp2_with fail
      refine(CB.out _ (hE.below bi)).mono ?_;rintro e w2 ⟨aU,bt⟩;have fw:=ac bi aU;cases o with
      | none=>
        obtain⟨v,rfl,rG⟩:=bt;have DI:=Ih rG;obtain⟨p,u,rfl,_,_,_⟩:=rG
        go_wp2
        go_ret2
        rw[d6.out];exact⟨fw,_,rfl,DI.out⟩
      | some l=>
        obtain⟨h4,v,base,rfl,vL,eI⟩:=bt;obtain⟨b0,b1,b2,b3,rfl⟩:=Lz.rh h4;obtain⟨g,cap,rfl,nk,TF,Dn,np,j7,qH,hc3⟩:=aaI eI;have dG:some g≠u6.ownBlock:=fun h=>by have:=(bZ.out.lt g h.symm).2;omega
        have O2:=Xn.out _ rfl;have Tr:=O2 b0 (by simp);have VP:=O2 b1 (by simp);have DR:=O2 b2 (by simp);have hl3:=O2 b3 (by simp);have acg:(4:Int)<=(cap:Int):=by omega
        obtain⟨z,Z6⟩:∃z:Nat,z=b0*256+b1:=⟨_,rfl⟩;obtain⟨y,hy'⟩:∃y:Nat,y=b2*256+b3:=⟨_,rfl⟩;have ab0:=Mt b0 b1 Tr VP;have abF:=Mt b2 b3 DR hl3;rw[<-Z6]at ab0;rw[<-hy']at abF
        have bt:Hid (Lz.eM s.data.toList last=some (ls++[z]++[y])):=by
         show _=_;rw[d6.out,Z6,hy'];simp
        have ft:=Ih (dm bZ.out aU);have abt:=fw.size;have kj:Below w1.heap.size w1 w2:=ac hb aU;have vM:=kj.size;clear O2 Xn eI Z6 hy' h4
        go_upto_region 12 with fail
        have hw0:IntKind.u16.wrap (b0:Int)=(b0:Int):=IntWalk.u16_in _ (by omega);have iW:IntKind.u16.wrap (b1:Int)=(b1:Int):=IntWalk.u16_in _ (by omega);have oZ:IntKind.u16.wrap (b2:Int)=(b2:Int):=IntWalk.u16_in _ (by omega);have hw3:IntKind.u16.wrap (b3:Int)=(b3:Int):=IntWalk.u16_in _ (by omega);have hw4:IntKind.u16.wrap ((b0:Int)*256)=(b0:Int)*256:=IntWalk.u16_in _ (by omega);have hw5:IntKind.u16.wrap ((b2:Int)*256)=(b2:Int)*256:=IntWalk.u16_in _ (by omega)
        go_region_held3 (fun W=>W.cell? ⟨g,0,none⟩=some (.int .u8 b0)/\W.cell? ⟨g,1,none⟩=some (.int .u8 b1)/\W.cell? ⟨g,2,none⟩=some (.int .u8 b2)/\W.cell? ⟨g,3,none⟩=some (.int .u8 b3)) (first |go_keep|(refine⟨?_,?_,?_,?_⟩<;>exact(aV.cell_far _ (by simp;omega) dG).trans ((World.cell?_alloc_lt w2 _ ⟨g,_,none⟩ Dn).trans (by assumption)))) (first |((refine step_append_lies _ (by rfl) (.tmp 47) (.tmp 68) 261 (by rfl) w1.heap.size 228 i0 (.int .u16 0) 1 2 Tryz.underlying261 hi ig fs fk (by rfl) (by decide) u6 j (dK ls) (by rfl) (by first |exact(ft.out.alloc _).drew|exact ft.out.drew.alloc _) ⟨w2.heap.size,0,none⟩ 2 2 [.int .u16 (z:Int),.int .u16 (y:Int)] (by rfl) (by rfl) (by first |exact Kt w2 _ _ 228|exact BC w2.drew _ _ 228) (by simp[Value.oneCell']) (by omega) (by unfold maxLen;omega) (by omega) (by simp;omega) (w2.heap.size+1) (by simp) ?_;intro g' Wv w4 aE aV KN hlg)))
        have ex:Below w1.heap.size w1 w4:=((kj.alloc vM _).drew).grown aV (by simp;omega) (fun k hk=>(ft.out.lt k hk).1);have fR:=Ih aE;clear aE aV
        go_wp2
        go_ret2
        rw[bt.out];refine⟨ac aC ex,_,w1.heap.size,rfl,DD,?_⟩;have h5:=fR.out;rw[show dK ls++[.int .u16 (z:Int),.int .u16 (y:Int)]=dK (ls++[z]++[y]) by simp[dK]]at h5;rw[show(ls++[z]++[y]).length=j+2 by simp[vK]];exact h5
   ·have jR:j=xs.length:=by omega
    have HR:Hid (Lz.eM s.data.toList last=some ls):=by
     show _=_;rw[hB.out,hF.out,jR,List.drop_length]
     simp[Lz.gL]
    have sW:¬j<xs.length:=aN;clear aN jR aQ hF
    go_wp2
    go_ret2
    rw[HR.out];exact⟨bi,_,w1.heap.size,rfl,DD,by rw[vK];exact bZ.out⟩
end Go.Proofs.YtlcbhacofagedaaGreatDoor
