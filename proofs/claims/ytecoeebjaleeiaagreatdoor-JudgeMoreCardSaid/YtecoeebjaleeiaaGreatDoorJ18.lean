/-
  hosts.row: the pieces that are written without two colons.
-/
import Derived.Test.YtecoeebjaleeiaaGreatDoorJ12
import Derived.Deep.RegionHeld3
import Derived.Deep.AppendLies
import Derived.Deep.DrawnRows
set_option maxHeartbeats 2000000
set_option maxRecDepth 100000
namespace Lz
open Go
def rB (x:Bs) (k m:Nat):Prop:=(∀c∈x.take k,(jb c).isSome=true)/\(k<=4->(x.take k).foldlM zh 0=some m/\m<16^k)/\m<65536
theorem Bp (x:Bs):rB x 0 0:=⟨by simp,fun _=>⟨rfl,by simp⟩,by omega⟩
theorem A7 {x:Bs} {k m d:Nat} {c:UInt8} (h:rB x k m) (hc:x[k]? =some c) (hd:jb c=some d):rB x (k+1) (m*16%65536||| d):=by
 obtain⟨h1,h2,h3⟩:=h;have aay:=zW c d hd;have hor:m*16%65536||| d=m*16%65536+d:=nat_join 4 _ _ (by omega) aay
 have gH:x.take (k+1)=x.take k++[c]:=by rw[List.take_add_one,hc];rfl
 rw[hor];refine⟨fun y hy=>?_,fun hk=>?_,by omega⟩
 ·rw[gH]at hy;rcases List.mem_append.1 hy with hy|hy
  ·exact h1 y hy
  ·rw[List.mem_singleton]at hy;rw[hy,hd];rfl
 ·obtain⟨h4,h5⟩:=h2 (by omega);have hp:16^k<=16^3:=Nat.pow_le_pow_right (by omega) (by omega);rw[gH,List.foldlM_append,h4,Nat.mod_eq_of_lt (by omega)];refine⟨?_,by rw[Nat.pow_succ];omega⟩
  simp[zh,hd]
theorem KB {x:Bs} {c:UInt8} (hc:c∈x) (hn:jb c=none) (n:Nat):x.foldlM zh n=none:=by
 obtain⟨a,b,rfl⟩:=List.append_of_mem hc;rw[List.foldlM_append];cases a.foldlM zh n with
 | none=>rfl
 | some m=>simp[zh,hn]
theorem G8 {x:Bs} {c:UInt8} (hc:c∈x) (hn:jb c=none):iq x=none:=by
 unfold iq;split
 ·rfl
 ·exact KB hc hn 0
theorem F4 {x:Bs} {m:Nat} (h:rB x x.length m):iq x=if x=[]\/4<x.length then none else some m:=by
 unfold iq;split
 ·rfl
 ·rename_i hx;have:=(h.2.1 (by omega)).1;rw[List.take_length]at this;exact this
end Lz
namespace Go.Proofs.YtecoeebjaleeiaaGreatDoor
open Go.RowKit
attribute [local go_sem ↓] Go.wp_at_zero Go.wp_at_succ
theorem Kp (n:Nat):bits .and .i64 (n:Int) 65535=((n%65536:Nat):Int):=by
 have abI:(BitVec.ofInt 64 65535).toNat=2^16-1:=by decide
 have key:(BitVec.ofInt 64 (n:Int)&&& BitVec.ofInt 64 65535).toNat=((n:Int)%((2^64:Nat):Int)).toNat%2^16:=by
  rw[BitVec.toNat_and,BitVec.toNat_ofInt,abI,Nat.and_two_pow_sub_one_eq_mod]
 show IntKind.i64.wrap ((BitVec.ofInt 64 (n:Int)&&& BitVec.ofInt 64 65535).toNat:Nat)=_;rw[key,IntKind.wrap_i64];omega
theorem M6 (a b:Nat) (ha:a<65536) (hb:b<65536):bits .or .i64 (a:Int) (b:Int)=((a||| b:Nat):Int):=by
 have hx:a||| b<2^16:=Nat.or_lt_two_pow (by omega) (by omega)
 show IntKind.i64.wrap ((BitVec.ofInt 64 (a:Int)||| BitVec.ofInt 64 (b:Int)).toNat:Int)=_;rw[BitVec.toNat_or,ofInt_u64 a (by omega),ofInt_u64 b (by omega),IntKind.wrap_i64];omega
theorem R6:(Tryz.prog.info? 266).map (fun i=>(i.zero,i.size,i.bytes))=some (some (.int .u16 0),1,2):=by kernel_rfl
def dU (l:List Nat):List Value:=l.map fun n:Nat=>Value.int .u16 (n:Int)
theorem JV (l:List Nat) (n:Nat):dU l++[.int .u16 (n:Int)]=dU (l++[n]):=by simp[dU]
def YM (o:Option (List Nat)) (w:World) (e:Ending) (w':World):Prop:=
 Below w.heap.size w w'/\match o with
  | some l=>∃v base,e=.returned (.tuple #[v,.nilIface])/\w.heap.size<=base/\w'.ownsRow base 266 1 v l.length (dU l)
  | none=>∃v,e=.returned (.tuple #[.slice none 0 0,v])/\dF w' 72 1 v
theorem tD {w wx:World} {s:ByteArray} {t:TypeId} {fr:Nat×Nat} (hb:Below w.heap.size w wx):
  YM none w (.returned (.tuple #[.slice none 0 0,.iface 263 (.pointer (some ⟨wx.heap.size,0,none⟩))])) (wx.alloc (.cells #[.string s,.iface 33 (.int .i64 72)] t fr)):=
 ⟨hb.alloc hb.size _,_,rfl,gx rfl⟩
theorem Gm (s sub:ByteArray) (hs:s.size<=1073741824) (w:World) (hE:dQ w):Calls Tryz.prog 270 #[.string s,.string sub] w fun e w'=>e=.returned (.bool (Lib.contains s.data.toList sub.data.toList))/\w=w':=by
 obtain⟨m,hm⟩:=hE.ml;exact(Tryz.strings_Contains s sub m w (by omega) hm).mono fun _ _ ⟨h1,h2⟩=>⟨h1,h2.symm⟩
theorem rh (c:UInt8):∀s:List UInt8,Lib.contains s [c]=s.contains c
 | []=>rfl
 | b::s=>by
   have ih:=rh c s;unfold Lib.contains at ih⊢;by_cases h:b=c
   ·rw[Lz.pR h,h];simp
   ·rw[Lz.oM h,List.contains_cons,<-ih];have h1:(c==b)=false:=by simpa using fun e=>h e.symm
    have h2:=Lib.index_ge s [c];rw[h1,Bool.false_or,Bool.eq_iff_iff,decide_eq_true_eq,decide_eq_true_eq];by_cases h3:Lib.index s [c]= -1
    ·rw[h3];simp
    ·rw[if_neg (by simpa using h3)];omega
theorem aa6 {w:World} {base:Nat} {v:Value} {p q r s:Nat} (h:w.ownsRow base 5 1 v 4 (u8n [p,q,r,s])):
  ∃g cap,v=.slice (some ⟨g,0,none⟩) 4 cap/\4<=cap/\base<=g/\g<w.heap.size/\w.cell? ⟨g,0,none⟩=some (.int .u8 p)/\w.cell? ⟨g,1,none⟩=some (.int .u8 q)/\w.cell? ⟨g,2,none⟩=some (.int .u8 r)/\w.cell? ⟨g,3,none⟩=some (.int .u8 s):=by
 rcases h.2 with⟨_,h0⟩|⟨g,cap,dB,rfl,Lw,hg,TW,gL,iZ,gH⟩
 ·cases h0
 ·have hc:∀j x,(u8n [p,q,r,s])[j]? =some x->w.cell? ⟨g,j,none⟩=some x:=by
   intro j x hj;rw[<-gH,List.getElem?_take]at hj;split at hj
   ·simp only[World.cell?,hg];simpa using hj
   ·cases hj
  exact⟨g,cap,rfl,TW,Lw,(Array.getElem?_eq_some_iff.1 hg).1,hc 0 _ rfl,hc 1 _ rfl,hc 2 _ rfl,hc 3 _ rfl⟩
theorem EH (w:World) (v v2:Value) (T:TypeId) (j:Nat) (u:Value) (h:[v,v2][j]? =some u):(w.alloc (.cells #[v,v2] T)).cell? ((⟨w.heap.size,0,none⟩:Addr).add j)=some u:=by
 rw[bV,World.cell?_alloc_mark];simpa using h
theorem KF (w:World) (v v2:Value) (T:TypeId) (j:Nat) (u:Value) (h:[v,v2][j]? =some u):((w.alloc (.cells #[v,v2] T)).drew).cell? ((⟨w.heap.size,0,none⟩:Addr).add j)=some u:=EH w v v2 T j u h
theorem NC (p q:Nat) (hp:p<256) (hq:q<256):bits .or .u16 ((p:Int)*256) (q:Int)=((p*256+q:Nat):Int):=by
 have h:=u16_or_nat (p*256) q (by omega) (by omega);rw[nat_join 8 (p*256) q (by omega) (by omega)]at h;rw[show(p:Int)*256=((p*256:Nat):Int) by omega];exact h
theorem Jn (s:ByteArray) (last:Bool) (hs:s.size<=1048576) (w:World) (hE:dQ w):Calls Tryz.prog 242 #[.string s,.bool last] w (YM (Lz.ie s.data.toList last) w):=by
 obtain⟨i0,hi,fI,ei,eM⟩:=info_parts R6;by_cases hz:s.size=0
 ·have he:=aq hz
  have HS:Hid (Lz.ie s.data.toList last=some []):=by
   show _=_;unfold Lz.ie;rw[if_pos (List.length_eq_zero_iff.1 (show s.data.toList.length=0 by rw[aa];exact hz))]
  go_enter Tryz.func242,Tryz.ntmps242
  go_wp2
  go_ret2
  rw[HS.out];exact⟨Below.refl _ _,.slice none 0 0,w.heap.size,rfl,Nat.le_refl _,World.ownsRow_nil w w.heap.size 266 1⟩
 ·have he:=an (s:=s) (by omega)
  have HS:Hid (Lz.ie s.data.toList last=Lz.jW last (Lz.av 58 s.data.toList)):=by
   show _=_;unfold Lz.ie;rw[if_neg];intro h;exact hz (by rw[<-aa,h];rfl)
  have cS:=Ih (rD s 58 (by omega) w hE);go_enter Tryz.func242,Tryz.ntmps242
  go_wp2_with fail
  refine(cS.out).mono ?_;rintro e w1 ⟨xs,rfl,gW,km⟩
  have ba:xs.length<=s.size+1:=by
   have h:=Lz.fY 58 s.data.toList;rw[<-gW.out,List.length_map,aa]at h;omega
  have ju:∀x,x∈xs->x.size<=s.size:=fun x hx=>ip gW.out hx;have ar:Below w.heap.size w w1:=by rw[km.out];exact(Below.refl _ w).alloc (Nat.le_refl _) _
  have hT:gy w1 w.heap.size xs:=by
   refine⟨by rw[km.out];simp,fun j x hj=>?_⟩;rw[km.out];have:=World.cell?_alloc_mark w (xs.map Value.string).toArray 9 (0,0) j;rw[this]
   simp[hj]
  have HT:=Ih hT;have SK:=Ih ju
  have hB:Hid (Lz.ie s.data.toList last=Lz.jW last (xs.map (·.data.toList))):=by
   show _=_;rw[HS.out,gW.out]
  have SI:=ar.size;clear cS km hT ju HS gW he;have hst:=World.ownsRow_nil w1 w1.heap.size 266 1
  go_wp2_with fail
  go_loopw [6,22] (fun a i wr=>∃(j:Nat) (ls:List Nat),j<=xs.length/\i=.int .i64 j/\ls.length=j/\Hid (Lz.jW last (xs.map (·.data.toList))=(Lz.jW last ((xs.drop j).map (·.data.toList))).map (ls++·))/\wr.ownsRow w1.heap.size 266 1 a j (dU ls)/\Below w1.heap.size w1 wr) (fun _ i _=>xs.length-(intOf i).toNat)
  case atStart=>exact⟨0,[],Nat.zero_le _,rfl,rfl,by show _=_;simp,hst,Below.refl _ w1⟩
  case round=>
   clear hst;obtain⟨j,ls,hj,rfl,Ix,hF,au,hb⟩:=hrel;have aK:=ac ar hb;have ju:=hb.size;have ew:=Ih au;by_cases aV:j<xs.length
   ·obtain⟨x,hx⟩:∃x,xs[j]? =some x:=⟨_,List.getElem?_eq_getElem aV⟩;have Cf:=(HT.out.below hb).cells _ _ hx;have T8:=SK.out x (List.mem_of_getElem? hx)
    have Fg:xs.drop j=x::xs.drop (j+1):=by
     rw[List.drop_eq_getElem_cons aV];congr 1;have:=List.getElem?_eq_getElem aV;rw[hx]at this;exact(Option.some.inj this).symm
    obtain⟨q,hq⟩:∃q,q=(last&&decide (j+1=xs.length)&&x.data.toList.contains 46):=⟨_,rfl⟩
    have oV:Hid (Lz.jW last ((xs.drop j).map (·.data.toList))=if q then(Lz.ia x.data.toList).map fun b=>[b.getD 0 0*256+b.getD 1 0,b.getD 2 0*256+b.getD 3 0]
      else match Lz.iq x.data.toList with
       | none=>none
       | some n=>(Lz.jW last ((xs.drop (j+1)).map (·.data.toList))).map (n::·)):=by
     show _=_;rw[Fg,List.map_cons,Lz.jW]
     have:((xs.drop (j+1)).map (·.data.toList)).isEmpty=decide (j+1=xs.length):=by
      rw[Bool.eq_iff_iff,List.isEmpty_iff,List.map_eq_nil_iff,List.drop_eq_nil_iff,decide_eq_true_eq];omega
     rw[this,<-hq];rfl
    have Hq:=Ih hq;clear hx Fg au hq;obtain⟨cb,WT⟩:∃cb,cb=Lib.contains x.data.toList [46]:=⟨_,rfl⟩;have cC:=fun W hW=>Gm x ⟨#[46]⟩ (by omega) W hW;rw[show Lib.contains x.data.toList (ByteArray.data ⟨#[46]⟩).toList=cb from WT.symm]at cC;have CC:=Ih cC;have Hcb:=Ih WT;clear cC WT
    go_upto_region 8 with fail
    go_cut [38] (fun s38 wx=>s38=.bool q/\wr=wx)
    case first=>
     cases last
     ·have HQ:Hid (q=false):=by show _=_;rw[Hq.out];rfl
      go_wp2_with fail
      go_meet;exact⟨by rw[HQ.out],rfl⟩
     ·by_cases Fx:j+1=xs.length
      ·have hjb:((j:Int)==(xs.length:Int)-1)=true:=by simp;omega
       have HQ:Hid (q=cb):=by show _=_;rw[Hq.out,decide_eq_true Fx,Hcb.out,rh];rfl
       go_wp2_with fail
       refine(CC.out _ (hE.below aK)).mono ?_;rintro e w' ⟨rfl,rfl⟩
       go_wp2_with fail
       go_meet;exact⟨by rw[HQ.out],rfl⟩
      ·have hjb:((j:Int)==(xs.length:Int)-1)=false:=by simp;omega
       have HQ:Hid (q=false):=by show _=_;rw[Hq.out,decide_eq_false Fx];simp
       go_wp2_with fail
       go_meet;exact⟨by rw[HQ.out],rfl⟩
    case rest=>
     obtain⟨rfl,rfl⟩:=hcut;clear CC Hcb Hq;cases q
     ·have gl:Hid (Lz.jW last ((xs.drop j).map (·.data.toList))=match Lz.iq x.data.toList with
        | none=>none
        | some n=>(Lz.jW last ((xs.drop (j+1)).map (·.data.toList))).map (n::·)):=by
       show _=_;rw[oV.out];rfl
      clear oV
      have HNo:Hid (Lz.iq x.data.toList=none->Lz.ie s.data.toList last=none):=by
       show _->_;intro h;rw[hB.out,hF.out,gl.out,h];rfl
      go_wp2_with fail
      go_loop [12,72] (fun n k=>∃k' m:Nat,k'<=x.size/\n=.int .i64 m/\k=.int .i64 k'/\m<65536/\Hid (Lz.rB x.data.toList k' m)) (fun _ k=>x.size-(intOf k).toNat)
      case atStart=>exact⟨0,0,Nat.zero_le _,rfl,rfl,by omega,Ih (Lz.Bp _)⟩
      case round=>
       obtain⟨k,m,hk,rfl,rfl,hm,hP⟩:=hrel;by_cases hkx:k<x.size
       ·have hg:=aB (s:=x) hkx;have cH:=fun W=>ny x[k] W;unfold DS Lz.jr Lz.qp at cH;have kj:=kx x[k];unfold Lz.jr at kj;have bZ:=fun d=>Lz.A7 (d:=d) hP.out hg;have AL:=fun h=>Lz.G8 (List.mem_of_getElem? hg) h;generalize PF:Lz.jb x[k]=xv at cH kj bZ AL;have gM:=Ih bZ;have ZL:=Ih AL;clear hg PF bZ AL;cases xv with
        | none=>
          have HN:=Ih (HNo.out (ZL.out rfl))
          go_wp2_with fail
          refine(cH _).mono ?_;rintro e w' ⟨rfl,rfl⟩
          go_wp2
          go_ret2
          rw[HN.out];exact tD aK
        | some d=>
          have fh:=Ih (gM.out d rfl);have aay:d<16:=kj
          have aad:bits .and .i64 ((m:Int)*16) 65535=((m*16%65536:Nat):Int):=by
           rw[show(m:Int)*16=((m*16:Nat):Int) by omega];exact Kp _
          have oY:m*16%65536||| d<65536:=Nat.or_lt_two_pow (n:=16) (by omega) (by omega)
          have hor:bits .or .i64 ((m:Int)*16%65536) (d:Int)=((m*16%65536||| d:Nat):Int):=by
           rw[show(m:Int)*16%65536=((m*16%65536:Nat):Int) by omega];exact M6 _ _ (by omega) (by omega)
          generalize m*16%65536||| d=z at hor fh oY
          go_wp2_with fail
          refine(cH _).mono ?_;rintro e w' ⟨rfl,rfl⟩
          go_wp2
          go_round
          case rel=>exact⟨k+1,_,by omega,rfl,by go_num,oY,fh⟩
          case measure=>simp[intOf];omega
       ·have aaA:k=x.size:=by omega
        have Tq:Hid (Lz.iq x.data.toList=if x.size=0\/4<x.size then none else some m):=by
         show _=_;have h:=hP.out;rw[aaA,<-aa]at h;rw[Lz.F4 h,aa];have:(x.data.toList=[])↔x.size=0:=by rw[<-aa,List.length_eq_zero_iff]
         simp only[this]
        clear hP aaA;by_cases iB:x.size=0
        ·have he:=aq iB;have HN:=Ih (HNo.out (by rw[Tq.out,if_pos (Or.inl iB)]))
         go_wp2
         go_ret2
         rw[HN.out];exact tD aK
        ·have he:=an (s:=x) (by omega);by_cases Ib:4<x.size
         ·have HN:=Ih (HNo.out (by rw[Tq.out,if_pos (Or.inr Ib)]))
          go_wp2
          go_ret2
          rw[HN.out];exact tD aK
         ·have hF2:Hid (Lz.jW last (xs.map (·.data.toList))=(Lz.jW last ((xs.drop (j+1)).map (·.data.toList))).map ((ls++[m])++·)):=by
           show _=_;rw[hF.out,gl.out,Tq.out,if_neg (by omega)];simp only;cases Lz.jW last ((xs.drop (j+1)).map (·.data.toList))<;>simp
          clear Tq gl hF HNo
          go_wp2_with (at_builtin;refine wpList_append_own _ rfl (.tmp 105) (.tmp 108) 306 rfl w1.heap.size 266 i0 (.int .u16 0) 1 2 Tryz.underlying306 hi fI ei eM rfl (by decide) _ _ _ rfl (ew.out.alloc _) ⟨wr.heap.size,0,none⟩ 1 1 [.int .u16 (m:Int)] rfl rfl (bD _ _ _) (by simp[Value.oneCell']) (by unfold maxLen;omega) (by omega) (by simp;omega) ?_)
          intro v' w4 bf cp _;have dy:Below w1.heap.size w1 w4:=Below.grown1 hb ew.out cp ju (Nat.le_refl _);rw[JV]at bf;have gr:=Ih bf;clear bf cp
          go_wp2
          go_roundw
          case rel=>exact⟨j+1,ls++[m],by omega,by go_num,by simp[Ix],hF2.out,gr.out,dy⟩
          case measure=>simp[intOf];omega
     ·have gl:Hid (Lz.ie s.data.toList last=(((Lz.ia x.data.toList).map fun b=>[b.getD 0 0*256+b.getD 1 0,b.getD 2 0*256+b.getD 3 0])).map (ls++·)):=by
       show _=_;rw[hB.out,hF.out,oV.out];rfl
      clear oV hF hB;have cB:=fun W hW=>J0 x (by omega) W hW;have hob:=fun l h=>(Lz.AE (x:=x.data.toList) (l:=l) h).2;generalize Lz.ia x.data.toList=o at gl cB hob;have Hob:=Ih hob;clear hob;have CB:=Ih cB;clear cB
      go_wp2_with fail
      refine(CB.out _ (hE.below aK)).mono ?_;rintro e w2 ⟨az,bA⟩;have ft:=ac aK az;cases o with
      | none=>
        obtain⟨v,rfl,tG⟩:=bA;have Fs:=Ih tG;obtain⟨p,u,rfl,_,_,_⟩:=tG
        go_wp2
        go_ret2
        rw[gl.out];exact⟨ft,_,rfl,Fs.out⟩
      | some l=>
        obtain⟨h4,v,base,rfl,fA,dJ⟩:=bA;obtain⟨b0,b1,b2,b3,rfl⟩:=Lz.zS h4;obtain⟨g,cap,rfl,iW,Lw,hgl,qP,iD,su,hc3⟩:=aa6 dJ;have ed:some g≠u6.ownBlock:=fun h=>by have:=(ew.out.lt g h.symm).2;omega
        have PL:=Hob.out _ rfl;have yB:=PL b0 (by simp);have Cj:=PL b1 (by simp);have vv:=PL b2 (by simp);have hl3:=PL b3 (by simp);have ac1:(4:Int)<=(cap:Int):=by omega
        obtain⟨z,hz'⟩:∃z:Nat,z=b0*256+b1:=⟨_,rfl⟩;obtain⟨y,hy'⟩:∃y:Nat,y=b2*256+b3:=⟨_,rfl⟩;have abM:=NC b0 b1 yB Cj;have acn:=NC b2 b3 vv hl3;rw[<-hz']at abM;rw[<-hy']at acn
        have bA:Hid (Lz.ie s.data.toList last=some (ls++[z]++[y])):=by
         show _=_;rw[gl.out,hz',hy'];simp
        have fM:=Ih (bH ew.out az);have acR:=ft.size;have fW:Below w1.heap.size w1 w2:=ac hb az;have ye:=fW.size;clear PL Hob dJ hz' hy' h4
        go_upto_region 12 with fail
        have hw0:IntKind.u16.wrap (b0:Int)=(b0:Int):=IntWalk.u16_in _ (by omega);have km:IntKind.u16.wrap (b1:Int)=(b1:Int):=IntWalk.u16_in _ (by omega);have uM:IntKind.u16.wrap (b2:Int)=(b2:Int):=IntWalk.u16_in _ (by omega);have hw3:IntKind.u16.wrap (b3:Int)=(b3:Int):=IntWalk.u16_in _ (by omega);have hw4:IntKind.u16.wrap ((b0:Int)*256)=(b0:Int)*256:=IntWalk.u16_in _ (by omega);have hw5:IntKind.u16.wrap ((b2:Int)*256)=(b2:Int)*256:=IntWalk.u16_in _ (by omega)
        go_region_held3 (fun W=>W.cell? ⟨g,0,none⟩=some (.int .u8 b0)/\W.cell? ⟨g,1,none⟩=some (.int .u8 b1)/\W.cell? ⟨g,2,none⟩=some (.int .u8 b2)/\W.cell? ⟨g,3,none⟩=some (.int .u8 b3)) (first |go_keep|(refine⟨?_,?_,?_,?_⟩<;>exact(cp.cell_far _ (by simp;omega) ed).trans ((World.cell?_alloc_lt w2 _ ⟨g,_,none⟩ hgl).trans (by assumption)))) (first |((refine step_append_lies _ (by rfl) (.tmp 47) (.tmp 68) 306 (by rfl) w1.heap.size 266 i0 (.int .u16 0) 1 2 Tryz.underlying306 hi fI ei eM (by rfl) (by decide) u6 j (dU ls) (by rfl) (by first |exact(fM.out.alloc _).drew|exact fM.out.drew.alloc _) ⟨w2.heap.size,0,none⟩ 2 2 [.int .u16 (z:Int),.int .u16 (y:Int)] (by rfl) (by rfl) (by first |exact KF w2 _ _ 266|exact EH w2.drew _ _ 266) (by simp[Value.oneCell']) (by omega) (by unfold maxLen;omega) (by omega) (by simp;omega) (w2.heap.size+1) (by simp) ?_;intro g' VN w4 bf cp mR hlg)))
        have dy:Below w1.heap.size w1 w4:=((fW.alloc ye _).drew).grown cp (by simp;omega) (fun k hk=>(fM.out.lt k hk).1);have gr:=Ih bf;clear bf cp
        go_wp2
        go_ret2
        rw[bA.out];refine⟨ac ar dy,_,w1.heap.size,rfl,SI,?_⟩;have h5:=gr.out;rw[show dU ls++[.int .u16 (z:Int),.int .u16 (y:Int)]=dU (ls++[z]++[y]) by simp[dU]]at h5;rw[show(ls++[z]++[y]).length=j+2 by simp[Ix]];exact h5
   ·have nP:j=xs.length:=by omega
    have HR:Hid (Lz.ie s.data.toList last=some ls):=by
     show _=_;rw[hB.out,hF.out,nP,List.drop_length]
     simp[Lz.jW]
    have EZ:¬j<xs.length:=aV;clear aV nP au hF
    go_wp2
    go_ret2
    rw[HR.out];exact⟨aK,_,w1.heap.size,rfl,SI,by rw[Ix];exact ew.out⟩
end Go.Proofs.YtecoeebjaleeiaaGreatDoor
