/-
  From what the row of lazaretlaw26.MatchAny hands over to what the walk asks.
-/
import Derived.Test.YtlcbhacofagedaaGreatDoorY28
import Derived.Test.YtlcbhacofagedaaGreatDoorY22
set_option maxHeartbeats 4000000
set_option maxRecDepth 100000
namespace Go.Proofs.YtlcbhacofagedaaGreatDoor
open Go.RowKit
attribute [local go_sem ↓] Go.wp_at_zero Go.wp_at_succ
structure UOk (u:Lz.af):Prop where
 nu:Lz.NV u
 wq:Lz.wq u<=100000
def slS (l:List (List UInt8)):List UInt8:=l.flatMap fun p=>47::p
theorem Nq (l:List (List UInt8)) (j:Nat) (p:List UInt8) (h:l[j]? =some p):slS (l.take (j+1))=slS (l.take j)++47::p:=by
 have hj:=(List.getElem?_eq_some_iff.1 h);rw[List.take_succ_eq_append_getElem hj.1,hj.2];unfold slS;rw[List.flatMap_append];simp
theorem si (l:List (List UInt8)) (j:Nat):(slS (l.take j)).length<=(slS l).length:=by
 conv=>(rhs;rw[<-List.take_append_drop j l])
 unfold slS;rw[List.flatMap_append,List.length_append];omega
theorem Em:∀l:List (List UInt8),l.length<=(slS l).length
 | []=>Nat.zero_le _
 | p::r=>by
   have:=Em r;show r.length+1<=((47::p)++slS r).length;rw[List.length_append,List.length_cons];omega
theorem J4 (v:Value) (u:Lz.af) (w:World) (hv:bz w v u) (hU:UOk u):Calls Tryz.prog 73 #[v] w (gl (Lz.ew u) w):=by
 obtain⟨aS,bW,bF,bG,bn,bA,bL,a1,c1,xs,bB,bK,bX,bY,rfl,hu,hx⟩:=hv.form;obtain⟨n,hn⟩:∃n,n=xs.length:=⟨_,rfl⟩;rw[<-hn];clear hv;obtain⟨l,hl⟩:∃l,l=xs.map (fun x:ByteArray=>x.data.toList):=⟨_,rfl⟩;have Al:u.path=l:=by rw[hu,hl]
 have R2:u.opq=bL:=by rw[hu]
 obtain⟨W,hW⟩:∃W,W=w.alloc (.cells #[.string aS,.string bW,.string bF,.bool bG,.string bn,.int .i64 bA,.bool bL,.slice a1 n c1,.bool bB,.bool bK,.string bX,.string bY] 26):=⟨_,rfl⟩;have bg:Below w.heap.size w W:=by rw[hW];exact(Below.refl _ w).alloc (Nat.le_refl _) _
 have ko:W.heap[w.heap.size]? =some (.cells #[.string aS,.string bW,.string bF,.bool bG,.string bn,.int .i64 bA,.bool bL,.slice a1 n c1,.bool bB,.bool bK,.string bX,.string bY] 26 (0,0)):=by rw[hW];exact aK _ _
 have c6:=rowAt ko 6 (.bool bL) rfl;have c7:=rowAt ko 7 (.slice a1 n c1) rfl;have HW:=Ih hW;have Lb:l.length=xs.length:=by rw[hl,List.length_map]
 clear hu hW ko;cases bL with
 | true=>
   obtain⟨_,p,hp,_⟩:=hU.nu.opaqueN R2;have fF:xs.length=1:=by rw[<-Lb,<-Al,hp];rfl
   obtain⟨x,rfl⟩:∃x,xs=[x]:=List.length_eq_one_iff.1 fF;have oX:n=1:=hn;subst oX;obtain⟨G,o,rfl,hG,hc⟩:=hx 0 x rfl;rw[Nat.add_zero]at hc;have DK:W.cell? ⟨G,o,none⟩=some (.string x):=by rw[bg.cell (p:=⟨G,o,none⟩) hG];exact hc
   have HV:Hid (Lz.ew u=x.data.toList):=by show _=_;unfold Lz.ew;rw[R2,if_pos rfl,Al,hl];simp
   have cJ:Hid (Calls Tryz.prog 112 #[.slice (some ⟨G,o,none⟩) 1 c1,.string ⟨#[]⟩] W fun e w'=>e=.returned (.string x)/\w'=W):=Ih (Any.strings_Join_one Tryz.lays156 Tryz.Builder_Extra_156 G o c1 x ⟨#[]⟩ W DK);clear hx hc DK Al R2 hl Lb hp hn;go_enter Tryz.func73,Tryz.ntmps73
   go_wp2_with fail
   rw[<-HW.out];refine cJ.out.mono ?_;rintro e w1 ⟨rfl,rfl⟩
   go_wp2_with fail
   go_ret;exact⟨x,rfl,Ih HV.out.symm,bg⟩
 | false=>
   have HV:Hid (Lz.ew u=slS l):=by show _=_;unfold Lz.ew;rw[R2,if_neg (by decide),Al];rfl
   have hz:(slS l).length<=1000000:=by
    have h1:=hU.wq;have h2:(slS l).length=Lz.pl u.path:=by rw[Al];rfl
    unfold Lz.wq Lz.wt at h1;omega
   by_cases h0:xs.length=0
   ·have e0:xs=[]:=List.length_eq_zero_iff.1 h0;subst e0;have oX:n=0:=hn;subst oX;have Tr:Hid (l=[]):=hl;clear hx Al R2 hl Lb h0 hn;go_enter Tryz.func73,Tryz.ntmps73
    go_wp2_with fail
    rw[<-HW.out];refine wp_loop_rounds 1 ?_;rw[rounds_succ]
    go_wp2_with fail
    go_ret;exact⟨_,rfl,by show _=_;rw[HV.out,Tr.out];rfl,bg⟩
   ·obtain⟨G,o,rfl,hG,h00⟩:=hx 0 (xs[0]'(by omega)) (List.getElem?_eq_getElem (by omega))
    have Hx:Hid (∀(j:Nat) (x:ByteArray),xs[j]? =some x->W.cell? ⟨G,o+j,none⟩=some (.string x)):=Ih (fun j x hj=>by
     obtain⟨G',o',e,_,hc⟩:=hx j x hj;injection e with e;injection e with e1 e2 _
     subst e1;subst e2;rw[bg.cell (p:=⟨G,o+j,none⟩) hG];exact hc)
    have hGW:G<W.heap.size:=Nat.lt_of_lt_of_le hG bg.size;have HL:=Ih hl;have HZ:=Ih hz;have xe:n<=1000000:=by have:=Em l;omega
    have HN:=Ih hn;rw[<-hn]at Lb;have HLL:=Ih Lb;clear h00 hx Al R2 hl Lb h0 hz hn hG;go_enter Tryz.func73,Tryz.ntmps73
    go_wp2_with fail
    rw[<-HW.out]
    go_loopw [3,14] (fun a i wr=>∃(j:Nat) (t:ByteArray),j<=n/\i=.int .i64 j/\a=.string t/\Hid (t.data.toList=slS (l.take j))/\Below W.heap.size W wr) (fun _ i _=>n-(intOf i).toNat)
    case atStart=>exact⟨0,⟨#[]⟩,Nat.zero_le _,rfl,rfl,Ih (by simp[slS]),Below.refl _ _⟩
    case round=>
     obtain⟨j,t,hj,rfl,rfl,hT,bi⟩:=hrel;by_cases aN:j<n
     ·have dH:(j:Int)<(n:Int):=by omega
      have Aj:(0:Int)<=(j:Int):=by omega
      obtain⟨x,hx⟩:∃x,xs[j]? =some x:=⟨_,List.getElem?_eq_getElem (by rw[<-HN.out];exact aN)⟩;have j7:wr.cell? ⟨G,o+j,none⟩=some (.string x):=by rw[bi.cell (p:=⟨G,o+j,none⟩) hGW];exact Hx.out j x hx
      have vK:l[j]? =some x.data.toList:=by rw[HL.out,List.getElem?_map,hx];rfl
      have hst:=Nq l j _ vK;have kp:Hid ((t++(⟨#[47]⟩++x)).data.toList=slS (l.take (j+1))):=by show _=_;rw[hst,ai,ai,hT.out];rfl
      have dV:t.size+(1+x.size)<=1000000:=by
       have h1:=si l (j+1);rw[hst,<-hT.out,List.length_append,List.length_cons,aa,aa]at h1;have:=HZ.out;omega
      have n1:¬(9223372036854775807<1+x.size):=by omega
      have n2:¬(9223372036854775807<t.size+(1+x.size)):=by omega
      clear hx vK hst hT dV
      go_wp2_with fail
      go_roundw
      case rel=>exact⟨j+1,_,by omega,by go_num,rfl,kp,bi⟩
      case measure=>simp[intOf];omega
     ·have dH:¬(j:Int)<(n:Int):=by omega
      have sZ:Hid (t.data.toList=Lz.ew u):=by
       show _=_;rw[HV.out,hT.out,List.take_of_length_le (by rw[HLL.out];omega)]
      clear hT
      go_wp2_with fail
      go_ret;exact⟨t,rfl,sZ,bg.trans (bi.mono bg.size)⟩
theorem Cp (v:Value) (u:Lz.af) (w:World) (hv:bz w v u) (hE:de w) (h0: -9223372036854775808<=u.port) (h1:u.port<=9223372036854775807) (hL:u.host.length<=1000000000):Calls Tryz.prog 34 #[v] w (gl (Lz.atU u) w):=by
 obtain⟨sch,usr,pas,hh,hst,prt,opq,a,c,xs,hq,hf,qry,frg,rfl,rfl,hx⟩:=hv.form;replace h0: -9223372036854775808<=prt:=h0;replace h1:prt<=9223372036854775807:=h1;replace hL:hst.data.toList.length<=1000000000:=hL;rw[aa]at hL;obtain⟨goal,hg⟩:∃goal,goal=Lz.atU ⟨sch.data.toList,usr.data.toList,pas.data.toList,hh,hst.data.toList,prt,opq,xs.map (fun x:ByteArray=>x.data.toList),hq,hf,qry.data.toList,frg.data.toList⟩:=⟨_,rfl⟩;rw[<-hg];have wZ:goal=if prt= -1 then hst.data.toList else hst.data.toList++[58]++Lib.itoa prt:=hg;have HG:=Ih wZ;obtain⟨W,hW⟩:∃W,W=w.alloc (.cells #[.string sch,.string usr,.string pas,.bool hh,.string hst,.int .i64 prt,.bool opq,.slice a xs.length c,.bool hq,.bool hf,.string qry,.string frg] 26):=⟨_,rfl⟩;have bg:Below w.heap.size w W:=by rw[hW];exact(Below.refl _ w).alloc (Nat.le_refl _) _
 have hR:W.heap[w.heap.size]? =some (.cells #[.string sch,.string usr,.string pas,.bool hh,.string hst,.int .i64 prt,.bool opq,.slice a xs.length c,.bool hq,.bool hf,.string qry,.string frg] 26 (0,0)):=by rw[hW];exact aK _ _
 have aN:=aI hR;have c4:=rowAt hR 4 (.string hst) rfl;have c5:=rowAt hR 5 (.int .i64 prt) rfl;have HW:=Ih hW;have HE:=Ih (hE.below bg);clear hW hR hv hx hg wZ hE;by_cases hp:prt= -1
 ·have vY:(prt== -1)=true:=by simp[hp]
  have kQ:Hid (goal=hst.data.toList):=by show _=_;rw[HG.out,if_pos hp]
  clear hp;go_enter Tryz.func34,Tryz.ntmps34
  go_wp2_with (rw[<-HW.out])
  go_ret;exact⟨hst,rfl,Ih kQ.out.symm,bg⟩
 ·have vY:(prt== -1)=false:=by simp[hp]
  have kQ:Hid (goal=hst.data.toList++[58]++Lib.itoa prt):=by show _=_;rw[HG.out,if_neg hp]
  clear hp;have n1:¬(9223372036854775807<hst.size+1):=by omega
  have K2:AtS hst prt w.heap.size W W.drew:=⟨c4,c5,HE.out.below (Below.refl _ _).drew,(Below.refl _ _).drew⟩
  have cI:Hid (∀V,AtS hst prt w.heap.size W V->Calls Tryz.prog 62 #[.int .i64 prt] V fun e w'=>∃u:ByteArray,e=.returned (.string u)/\Hid (u.data.toList=Lib.itoa prt)/\u.size<=21/\AtS hst prt w.heap.size W w'):=Ih (by
   rintro V ⟨k4,k5,kE,kb⟩;refine(lp prt h0 h1 V kE).mono ?_;rintro e w' ⟨u,he,hu,Gg⟩;have sW:=Nat.lt_of_lt_of_le aN kb.size;exact⟨u,he,hu,by rw[<-aa,hu.out];exact kF h0 h1,by rw[Gg.cell (p:=⟨w.heap.size,4,none⟩) sW];exact k4,by rw[Gg.cell (p:=⟨w.heap.size,5,none⟩) sW];exact k5,kE.below Gg,ac kb Gg⟩)
  go_enter Tryz.func34,Tryz.ntmps34
  go_wp2_with (rw[<-HW.out])
  go_upto_region 3 with fail
  go_cut [2] (fun s wx=>∃u:ByteArray,s=.string u/\Hid (u.data.toList=goal)/\Below w.heap.size w wx)
  case first=>
   go_region_held3 (fun V=>V.cell? ⟨w.heap.size,4,none⟩=some (.string hst)/\V.cell? ⟨w.heap.size,5,none⟩=some (.int .i64 prt)/\AtE W V) (first |assumption|exact K2) (first |(go_at_call 62;refine(cI.out _ (by assumption)).mono ?_;rintro e w2 ⟨t,rfl,ht,hs,hS2⟩;have n2:¬(9223372036854775807<hst.size+1+t.size):=(by omega)))
   go_wp2_with fail
   go_meet;exact⟨_,rfl,by show _=_;rw[kQ.out,ai,ai,ht.out],bg.trans (hS2.2.2.2.mono bg.size)⟩
  case rest=>
   obtain⟨u,rfl,hu,hb⟩:=hcut
   go_wp2_with fail
   go_ret;exact⟨_,rfl,hu,hb⟩
attribute [local go_sem ↓] Go.wp_at_zero Go.wp_at_succ
theorem MO (s:ByteArray) (hs:s.size<=90000) (w:World) (hE:de w):Calls Tryz.prog 78 #[.string s] w (cn (Lz.ipR s.data.toList) w):=by
 by_cases h0:s.data.toList[0]? =some 91
 ·have ei:0<s.size:=by
   have:=(List.getElem?_eq_some_iff.1 h0).1;exact this
  have In:(0:Int)<(s.size:Int):=by omega
  have tK:s[0]=91:=by
   have:=aw ei;rw[h0]at this;exact(Option.some.inj this).symm
  have ek:((s[0].toNat:Int)==91)=true:=by rw[tK];rfl
  have cP:=qr s true hs h0 w hE;have Pr:=Lz.M8 h0;generalize Lz.qY s.data.toList=o at cP Pr;have CP:=Ih cP;have Oy:=Ih Pr;have Hs0:=Ih tK;clear h0 tK cP Pr;go_enter Tryz.func78,Tryz.ntmps78
  go_wp2_with fail
  refine CP.out.mono ?_;rintro e w1 ⟨hb,bt⟩;cases o with
  | none=>
    obtain rfl:=bt
    go_wp2_with fail
    go_ret;rw[Oy.out];exact⟨rfl,hb⟩
  | some t=>
    obtain⟨u,rfl,hu⟩:=bt;obtain⟨q,hq⟩:∃q:Bool,q=decide (t=s.data.toList):=⟨_,rfl⟩
    have abM:(u.toList==s.toList)=q:=by
     rw[hq,Bool.eq_iff_iff,decide_eq_true_eq,beq_iff_eq,Lib.toList_data,Lib.toList_data,hu.out]
    have HV:Hid (Lz.ipR s.data.toList=q):=by show _=_;rw[Oy.out,hq]
    clear hq hu Oy
    go_wp2_with fail
    go_ret;rw[HV.out];exact⟨rfl,hb⟩
 ·have Pr:=Lz.MP h0;have cS:=Ih (nA s 46 (by omega) w);have H0:=Ih h0;have Oy:=Ih Pr;clear h0 Pr;go_enter Tryz.func78,Tryz.ntmps78
  go_upto_region 1 with fail
  go_cut [16] (fun c wx=>c=.bool false/\w=wx)
  case first=>
   by_cases hz:s.size=0
   ·have Ik:¬(0:Int)<(s.size:Int):=by omega
    have Hz:=Ih hz;clear hz
    go_wp2_with fail
    go_meet;exact⟨rfl,rfl⟩
   ·have ei:0<s.size:=by omega
    have Ik:(0:Int)<(s.size:Int):=by omega
    have ek:((s[0].toNat:Int)==91)=false:=by
     rw[show((s[0].toNat:Int)==91)=(s[0]==91)from jO s[0] 91,beq_eq_false_iff_ne];intro h;exact H0.out (by rw[aw ei,h])
    go_wp2_with fail
    go_meet;exact⟨rfl,rfl⟩
  case rest=>
  obtain⟨rfl,rfl⟩:=hcut
  go_wp2_with fail
  refine cS.out.mono ?_;rintro e w1 ⟨v1,xs,rfl,d7,gS,aC⟩
  have O5:1<=xs.length:=by
   obtain⟨h',t,e⟩:=Lz.jf 46 s.data.toList;have h:=congrArg List.length d7.out;rw[e,List.length_map,List.length_cons]at h;omega
  obtain⟨b1,O8,rfl,Iz,hT⟩:=jj gS O5;have dV:∀x,x∈xs->x.size<=s.size:=fun x hx=>dL d7.out hx
  have bv:xs.length<=s.size+1:=by
   have h:=Lz.dz 46 s.data.toList;rw[<-d7.out,List.length_map,aa]at h;omega
  have HT:=Ih hT;have yD:=Ih dV
  have hB:Hid (Lz.ipR s.data.toList=((xs.map (fun x:ByteArray=>x.data.toList)).all (fun x=>(Lz.dX x).isSome)&&(xs.length==4))):=by
   show _=_;rw[Oy.out];unfold Lz.Jc;rw[<-d7.out,List.length_map]
  have DD:=aC.size;clear cS hT dV Oy d7 gS H0
  go_wp2_with fail
  go_loopw [6] (fun i wr=>∃j:Nat,j<=xs.length/\i=.int .i64 j/\Hid ((xs.map (fun x:ByteArray=>x.data.toList)).all (fun x=>(Lz.dX x).isSome)=((xs.drop j).map (fun x:ByteArray=>x.data.toList)).all (fun x=>(Lz.dX x).isSome))/\Below w1.heap.size w1 wr) (fun i _=>xs.length-(intOf i).toNat)
  case atStart=>exact⟨0,Nat.zero_le _,rfl,by show _=_;rw[List.drop_zero],Below.refl _ w1⟩
  case round=>
   obtain⟨j,hj,rfl,hF,hb⟩:=hrel;have bi:=ac aC hb;by_cases aN:j<xs.length
   ·obtain⟨x,hx⟩:∃x,xs[j]? =some x:=⟨_,List.getElem?_eq_getElem aN⟩;have oY:=(HT.out.below hb).cells _ _ hx;have o7:=yD.out x (List.mem_of_getElem? hx)
    have iS:xs.drop j=x::xs.drop (j+1):=by
     rw[List.drop_eq_getElem_cons aN];congr 1;have:=List.getElem?_eq_getElem aN;rw[hx]at this;exact(Option.some.inj this).symm
    rw[iS,List.map_cons,List.all_cons]at hF;cases ho:Lz.dX x.data.toList with
    | none=>
      have cD:=Ih (mH (y:=x) (by omega) ho wr (hE.below bi))
      have HN:Hid (Lz.ipR s.data.toList=false):=by
       show _=_;rw[hB.out,hF.out,ho];rfl
      clear ho hF hx iS hB
      go_wp2_with fail
      refine cD.out.mono ?_;rintro e w4 ⟨⟨z,rfl⟩,ex⟩
      go_wp2_with fail
      go_ret;rw[HN.out];exact⟨rfl,ac bi ex⟩
    | some n=>
      have cD:=Ih (mP (y:=x) (by omega) ho wr (hE.below bi))
      have Lm:Hid ((xs.map (fun x:ByteArray=>x.data.toList)).all (fun x=>(Lz.dX x).isSome)=((xs.drop (j+1)).map (fun x:ByteArray=>x.data.toList)).all (fun x=>(Lz.dX x).isSome)):=by
       show _=_;rw[hF.out,ho];rfl
      clear ho hF hx iS
      go_wp2_with fail
      refine cD.out.mono ?_;rintro e w4 ⟨rfl,ex⟩;have dB:=ac hb ex
      go_wp2_with fail
      go_roundw
      case rel=>exact⟨j+1,by omega,by go_num,Lm.out,dB⟩
      case measure=>simp[intOf];omega
   ·have h4:((xs.length:Int)==4)=(xs.length==4):=by rw[Bool.eq_iff_iff];simp;omega
    have HV:Hid (Lz.ipR s.data.toList=(xs.length==4)):=by
     show _=_;rw[hB.out,hF.out,show j=xs.length by omega,List.drop_length];rfl
    clear hB hF
    go_wp2_with fail
    go_ret;rw[HV.out];exact⟨by (rw[<-h4])<;>rfl,bi⟩
end Go.Proofs.YtlcbhacofagedaaGreatDoor
namespace Lz
open Go
theorem Bk (l h:Bs) (_hn:h.length+1<=l.length):Lib.hasSuffix l (46::h)=(l.drop (l.length-h.length-1)==46::h):=by
 rw[Bool.eq_iff_iff];unfold Lib.hasSuffix;rw[List.isSuffixOf_iff_suffix,List.suffix_iff_eq_drop,beq_iff_eq,List.length_cons,show l.length-(h.length+1)=l.length-h.length-1 by omega];exact eq_comm
theorem zA (l h:Bs) (hn:l.length<h.length+1):Lib.hasSuffix l (46::h)=false:=by
 unfold Lib.hasSuffix;rw[Bool.eq_false_iff];intro e;have:=(List.isSuffixOf_iff_suffix.1 e).length_le
 simp at this
 omega
end Lz
namespace Go.Proofs.YtlcbhacofagedaaGreatDoor
open Go.RowKit
attribute [local go_sem ↓] Go.wp_at_zero Go.wp_at_succ
theorem EW (x:aq) (name:ByteArray) (w:World) (hE:de w) (hs:x.host.size<=90000) (hn:name.size<=1000000):Calls Tryz.prog 46 #[x.val,.string name] w (cn (Lz.rX x.src name.data.toList) w):=by
 obtain⟨k,t,b,sc,ho,wd,po,pa⟩:=x;have hs:ho.size<=90000:=hs;obtain⟨R,hR⟩:∃R,R=Lz.rX (aq.src ⟨k,t,b,sc,ho,wd,po,pa⟩) name.data.toList:=⟨_,rfl⟩;rw[<-hR];have ou:R=if wd then ho.data.toList==[]||Lib.hasSuffix name.data.toList (46::ho.data.toList)else if ho.data.toList != Lz.yk&&Lz.ipP ho.data.toList then false else ho.data.toList==name.data.toList:=hR
 dsimp only[aq.val]
 obtain⟨W,hW⟩:∃W,W=w.alloc (.cells #[.int .i64 k,.string t,.int .i64 b,.string sc,.string ho,.bool wd,.int .i64 po,.string pa] 41):=⟨_,rfl⟩;have bg:Below w.heap.size w W:=by rw[hW];exact(Below.refl _ w).alloc (Nat.le_refl _) _
 have sU:W.heap[w.heap.size]? =some (.cells #[.int .i64 k,.string t,.int .i64 b,.string sc,.string ho,.bool wd,.int .i64 po,.string pa] 41 (0,0)):=by rw[hW];exact aK _ _
 have y4:=rowAt sU 4 (.string ho) rfl;have y5:=rowAt sU 5 (.bool wd) rfl;have HW:=Ih hW;have lY:=hE.below bg;clear hR hW hE;cases wd with
 | true=>
   rw[if_pos rfl]at ou;by_cases hz:ho.size=0
   ·have z1:ho.toList.isEmpty=true:=ak hz
    have HV:Hid (R=true):=by
     have:ho.data.toList=[]:=List.length_eq_zero_iff.1 (by rw[aa];exact hz);show _=_;rw[ou,this];rfl
    clear ou hz sU lY;go_enter Tryz.func46,Tryz.ntmps46
    go_wp2_with fail
    rw[<-HW.out];go_ret;exact⟨by rw[HV.out];rfl,bg⟩
   ·have z1:ho.toList.isEmpty=false:=aj (by omega);have fk:(ho.data.toList==[])=false:=beq_eq_false_iff_ne.2 (fun e=>hz (by rw[<-aa,e];rfl));rw[fk,Bool.false_or]at ou;obtain⟨y,hy⟩:∃y:Int,y=(name.size:Int)-(ho.size:Int):=⟨_,rfl⟩;have iW:IntKind.i64.wrap ((name.size:Int)-(ho.size:Int))=y:=by rw[hy];exact IntWalk.i64_in _ (by omega)
    by_cases hl:ho.size+1<=name.size
    ·obtain⟨d,hd⟩:∃d,d=name.size-ho.size-1:=⟨_,rfl⟩;have oZ:IntKind.i64.wrap (y-1)=(d:Int):=by rw[show y-1=(d:Int) by omega];exact IntWalk.i64_in _ (by omega)
     have WP:(0:Int)<=(d:Int):=by omega
     have xd:(d:Int)<=(name.size:Int):=by omega
     have n1:¬(9223372036854775807<1+ho.size):=by omega
     have HV:Hid (R=((name.extract d name.size).data.toList==(⟨#[46]⟩++ho:ByteArray).data.toList)):=by
      show _=_;rw[ou,Lz.Bk _ _ (by rw[aa,aa];exact hl),aa,aa,<-hd,ai,Lib.extract_data,List.take_of_length_le (by rw[List.length_drop,aa];omega)];rfl
     clear ou hz fk sU lY hd hl hy;go_enter Tryz.func46,Tryz.ntmps46
     go_wp2_with fail
     rw[<-HW.out]
     go_quiet (fail)
     have pd:=below_drewN bg nq
     go_wp2_with fail
     go_ret;exact⟨by rw[HV.out,<-Lib.toList_data,<-Lib.toList_data];rfl,pd⟩
    ·obtain⟨z,hzz⟩:∃z:Int,z=y-1:=⟨_,rfl⟩;have oZ:IntKind.i64.wrap (y-1)=z:=by rw[hzz];exact IntWalk.i64_in _ (by omega)
     have Dm:decide ((0:Int)<=z)=false:=decide_eq_false (by omega);have HV:Hid (R=false):=by show _=_;rw[ou];exact Lz.zA _ _ (by rw[aa,aa];omega)
     clear ou hz fk sU lY hl hy hzz;go_enter Tryz.func46,Tryz.ntmps46
     go_wp2_with fail
     rw[<-HW.out];refine wp_region_held_drew (S:=fun V=>Below W.heap.size W V) (by kernel_rfl) (Below.refl _ _).drew (fun ar=>?_);generalize W.drew=W0 at ar⊢;apply TkG 0 22;apply TkG 1 23;apply TkG 2 24
     iterate 3 (rotate_right 2;(·(intro W yC;(try dsimp only at yC);(try simp only[Act.put]);(try simp only[List.setIfInBounds_toArray]);(try simp only[List.set_cons_zero,List.set_cons_succ]);go_simp;try with_reducible rfl)))
     (try simp only[Act.put,List.setIfInBounds_toArray,List.set_cons_zero,List.set_cons_succ])
     refine TnD 3 (some 25) rfl rfl ?_;refine TnD 4 (some 26) rfl rfl ?_;refine TnD 5 (some 27) rfl rfl ?_;refine TnD 6 (some 28) rfl rfl ?_;refine TnD 7 (some 29) rfl rfl ?_;refine TnD 8 (some 30) rfl rfl ?_;refine TnD 9 (some 31) rfl rfl ?_
     (try simp only[Act.put,List.setIfInBounds_toArray,List.set_cons_zero,List.set_cons_succ])
     apply TkG 10 32;apply TkG 11 4
     iterate 2 (rotate_right 2;(·(intro W yC;(try dsimp only at yC);(try simp only[Act.put]);(try simp only[List.setIfInBounds_toArray]);(try simp only[List.set_cons_zero,List.set_cons_succ]);go_simp;try with_reducible rfl)))
     (try simp only[Act.put,List.setIfInBounds_toArray,List.set_cons_zero,List.set_cons_succ])
     refine wpAnyH_done (by kernel_rfl) ?_ _
     go_wp2_with fail
     go_ret;exact⟨by rw[HV.out];rfl,ac bg ar⟩
 | false=>
   rw[if_neg (by decide)]at ou;by_cases he:ho=name
   ·subst he;have e1:(ho.toList==ho.toList)=true:=beq_self_eq_true _;by_cases XJ:ho.data.toList=Lz.yk
    ·have g1:=aH (show ho.data.toList=[49,50,55,46,48,46,48,46,49]from XJ);have HV:Hid (R=true):=by show _=_;rw[ou,XJ];simp
     clear ou XJ sU lY;go_enter Tryz.func46,Tryz.ntmps46
     go_wp2_with fail
     rw[<-HW.out];go_ret;exact⟨by rw[HV.out];rfl,bg⟩
    ·have g1:=aR (show ¬ho.data.toList=[49,50,55,46,48,46,48,46,49]from XJ);have hb:(ho.data.toList != Lz.yk)=true:=bne_iff_ne.2 XJ;obtain⟨qi,Ss⟩:∃q,q=Lz.ipP ho.data.toList:=⟨_,rfl⟩;have kI:=Ih (fun V (hV:Below W.heap.size W V)=>MO ho hs V (lY.below hV));rw[Lz.Uy,<-Ss]at kI;have HV:Hid (R= !qi):=by show _=_;rw[ou,hb,<-Ss];cases qi<;>simp
     clear ou XJ hb sU lY Ss;go_enter Tryz.func46,Tryz.ntmps46
     go_wp2_with fail
     rw[<-HW.out];refine(kI.out _ (Below.refl _ _)).mono ?_;rintro e w1 ⟨rfl,aC⟩
     go_wp2_with fail
     go_ret;exact⟨by rw[HV.out];rfl,ac bg aC⟩
   ·have Zb:¬ho.data.toList=name.data.toList:=fun e=>he (ByteArray.ext (Array.toList_inj.1 e));have HV:Hid (R=false):=by show _=_;rw[ou,beq_eq_false_iff_ne.2 Zb];simp
    have e1:(name.toList==ho.toList)=false:=beq_eq_false_iff_ne.2 (fun e=>Zb (by rw[<-Lib.toList_data,<-Lib.toList_data,e]));clear ou he Zb sU lY;go_enter Tryz.func46,Tryz.ntmps46
    go_wp2_with fail
    rw[<-HW.out];go_ret;exact⟨by rw[HV.out];rfl,bg⟩
def S9:Obj:=.cells #[.string ⟨#[115,101,108,102]⟩,.string ⟨#[117,110,115,97,102,101,45,105,110,108,105,110,101]⟩,.string ⟨#[117,110,115,97,102,101,45,101,118,97,108]⟩,.string ⟨#[115,116,114,105,99,116,45,100,121,110,97,109,105,99]⟩,.string ⟨#[117,110,115,97,102,101,45,104,97,115,104,101,115]⟩,.string ⟨#[114,101,112,111,114,116,45,115,97,109,112,108,101]⟩,.string ⟨#[119,97,115,109,45,117,110,115,97,102,101,45,101,118,97,108]⟩,.string ⟨#[117,110,115,97,102,101,45,97,108,108,111,119,45,114,101,100,105,114,101,99,116,115]⟩] 9
structure qO (w wx:World):Prop where
 row:∃cs:Array Value,cs.size=8/\wx.heap[w.heap.size]? =some (.cells cs 41 (0,0))
 kws:wx.heap[w.heap.size+1]? =some S9
 below:Below w.heap.size w wx
theorem qO.call {w w1 w2:World} (h:qO w w1) (hb:Below w1.heap.size w1 w2):qO w w2:=by
 obtain⟨⟨cs,h1,h3⟩,h4,h5⟩:=h;exact⟨⟨cs,h1,by rw[hb.block _ (Array.getElem?_eq_some_iff.1 h3).1];exact h3⟩,by rw[hb.block _ (Array.getElem?_eq_some_iff.1 h4).1];exact h4,ac h5 hb⟩
theorem qO.drew {w w1:World} (h:qO w w1):qO w w1.drew:=⟨h.row,h.kws,h.below.drew⟩
def IX (k:Nat):ByteArray:=⟨(Lz.bq.getD k []).toArray⟩
theorem qO.kw {w w1:World} (h:qO w w1) {k:Nat} (hk:k<8):w1.cell? ⟨w.heap.size+1,k,none⟩=some (.string (IX k)):=by
 have h2:=h.kws;unfold S9 at h2;rw[cell_of_row _ _ k _ _ _ h2];obtain rfl|rfl|rfl|rfl|rfl|rfl|rfl|rfl:k=0\/k=1\/k=2\/k=3\/k=4\/k=5\/k=6\/k=7:=by omega
 all_goals rfl
theorem Kr (k:Nat):(IX k).data.toList=Lz.bq.getD k []:=rfl
theorem Rm:∀k,k<8->(IX k).size<=100:=by decide +kernel
theorem US {l:List UInt8} {k:Nat} (hk:k<8) (h:l=Lz.bq.getD k []):Lz.bq.contains l=true:=by
 rw[List.contains_iff_mem,h];have:k<Lz.bq.length:=hk;simp only[List.getD_eq_getElem?_getD,List.getElem?_eq_getElem this,Option.getD_some];exact List.getElem_mem this
theorem Q9 {l:List UInt8} (h:∀k,k<8->Lz.bq.getD k []≠l):Lz.bq.contains l=false:=by
 rw[Bool.eq_false_iff];intro hc;rw[List.contains_iff_mem]at hc;obtain⟨k,hk⟩:=List.getElem?_of_mem hc;have aN:k<8:=(List.getElem?_eq_some_iff.1 hk).1;refine h k aN ?_;simp only[List.getD_eq_getElem?_getD,hk,Option.getD_some]
def aaB (s:ByteArray) (w:World) (i:Value) (wr:World):Prop:=
 ∃k:Nat,k<=8/\i=.int .i64 k/\Hid (∀j,j<k->Lz.bq.getD j []≠Lz.low s.data.toList)/\qO w wr
def aaD (s:ByteArray) (w:World) (i:Value) (wr:World):Prop:=
 ∃(k:Nat) (b:Int),k<=3/\i=.int .i64 b/\b=256+128*k/\Hid (∀j,j<k->Lz.eU s.data.toList (fA j)=none)/\qO w wr
theorem Af (s:ByteArray) (hs:s.size<=1048576) (w:World) (hE:Env w):Calls Tryz.prog 74 #[.string s] w (SZ (Lz.dh s.data.toList) w):=by
 go_enter Tryz.func74,Tryz.ntmps74
 go_wp2
 go_loopw [5] (fun i wr=>aaB s w i wr) (fun i _=>8-(intOf i).toNat)
 case atStart=>
  refine⟨0,by omega,rfl,Ih (fun j h=>by omega),?_⟩;refine⟨⟨#[.int .i64 0,.string ⟨#[]⟩,.int .i64 0,.string ⟨#[]⟩,.string ⟨#[]⟩,.bool false,.int .i64 0,.string ⟨#[]⟩],rfl,?_⟩,?_,((Below.refl _ w).alloc (Nat.le_refl _) _).alloc (by simp) _⟩
  ·exact(jg (Below.refl _ _)).1
  ·exact(jg (Below.refl _ _)).2
 case round=>
  obtain⟨k,hk,rfl,ic,hQ⟩:=hrel;by_cases aN:k<8
  ·have hkw:=hQ.kw aN;have hkd:=hQ.drew.kw aN;have hkz:=Rm k aN
   have hb:∀u:ByteArray,u.data.toList=Lz.low s.data.toList->(u.toList==(IX k).toList)=decide (Lz.bq.getD k []=Lz.low s.data.toList):=by
    intro u hu;rw[Lib.toList_data,Lib.toList_data,hu,Kr];by_cases h:Lz.bq.getD k []=Lz.low s.data.toList
    ·rw[decide_eq_true h,h];simp
    ·rw[decide_eq_false h];rw[beq_eq_false_iff_ne];exact fun e=>h e.symm
   obtain⟨q,hq⟩:∃q,q=decide (Lz.bq.getD k []=Lz.low s.data.toList):=⟨_,rfl⟩;rw[<-hq]at hb;have Hb:=Ih hb;have Hq:=Ih hq;have HQ:=Ih hQ;clear hb hq hQ
   go_upto_region 5 with fail
   go_cut [22] (fun s22 wx=>s22=.bool q/\qO w wx)
   case first=>
    go_region_with ((go_at_call 24;(refine(fh s (by omega) _).mono ?_);(rintro e w9 ⟨u,rfl,hu,Lf⟩);(have hq9:=Hb.out u hu.out);(have hQ9:qO w w9:=qO.call (by first |exact HQ.out.drew|exact HQ.out) Lf);(have hk9:=hQ9.kw aN)))
    all_goals
     clear hq9
     go_wp2_with fail
     go_meet;exact⟨by rw[<-Hb.out u hu.out],hQ9⟩
   case rest=>
    clear HQ hkw hkd Hb;obtain⟨rfl,hQ⟩:=hcut;have hkw:=hQ.kw aN;cases q
    ·go_wp2
     go_roundw
     case rel=>exact⟨k+1,by omega,by go_num,Ih (fun j hj=>by
      by_cases Dt:j<k
      ·exact ic.out j Dt
      ·obtain rfl:j=k:=by omega
       exact of_decide_eq_false Hq.out.symm),hQ⟩
     case measure=>simp[intOf];omega
    ·have HK:Hid (Lz.dh s.data.toList=some (Lz.Qo (Lz.bq.getD k []))):=by
      show _=_;have h:=of_decide_eq_true Hq.out.symm;unfold Lz.dh;rw[US aN h.symm,if_pos rfl,h]
     obtain⟨⟨cs,gR,j9⟩,O9,fF⟩:=hQ;clear O9
     go_wp2_with (refine bw rfl _ _ rfl w.heap.size rfl rfl _ j9 gR ?_)
     refine bodyPost_ret (bx (u:=3) rfl _ _ w.heap.size ⟨1,IX k,0,⟨#[]⟩,⟨#[]⟩,false,-1,⟨#[]⟩⟩ (0,0) rfl (setRow_heap _ _ _ _ _ _ j9)) rfl ⟨⟨1,IX k,0,⟨#[]⟩,⟨#[]⟩,false,-1,⟨#[]⟩⟩,?_,?_,az fF (Nat.le_refl _)⟩
     ·rw[HK.out];rfl
     ·rw[HK.out];exact Ih (fun y hy=>Option.some.inj hy)
  ·have HK:Hid (Lz.bq.contains (Lz.low s.data.toList)=false):=by
    show _=_;exact Q9 (fun j hj=>ic.out j (by omega))
   clear ic
   go_wp2_with fail
   refine(uL s ⟨#[110,111,110,99,101,45]⟩ (by omega) _).mono ?_;rintro e w2 ⟨v,rfl,hv,hvz,aU⟩;have TD:=hQ.call aU;clear aU hQ;generalize hhp:Lib.hasPrefix (Lz.low s.data.toList) (ByteArray.data ⟨#[110,111,110,99,101,45]⟩).toList=hp at hv;have SD:=Ih hhp;have cB:=Ih (uF v (by omega) w2);generalize qy:Lz.eO v.data.toList=bb at cB;have WV:=Ih qy;clear qy hhp;by_cases hN:hp=true/\bb=true
   ·obtain⟨rfl,rfl⟩:=hN;have hd:=hv.out (by trivial)
    have HR:Hid (Lz.dh s.data.toList=some (Lz.zX v.data.toList)):=by
     show _=_;unfold Lz.dh;have h1:Lib.hasPrefix (Lz.low s.data.toList) Lz.m8=true:=SD.out;have h2:s.data.toList.drop 6=v.data.toList:=hd.symm;rw[HK.out,h1,h2,WV.out];rfl
    clear hd hv;obtain⟨⟨cs,gR,j9⟩,O9,fF⟩:=TD;clear O9
    go_wp2_with (first |(go_at_call 114;(with_reducible refine(cB.out).mono ?_);rintro e w3 ⟨rfl,rfl⟩)|(refine bw rfl _ _ rfl w.heap.size rfl rfl _ j9 gR ?_))
    refine bodyPost_ret (bx (u:=3) rfl _ _ w.heap.size ⟨4,v,0,⟨#[]⟩,⟨#[]⟩,false,-1,⟨#[]⟩⟩ (0,0) rfl (setRow_heap _ _ _ _ _ _ j9)) rfl ⟨⟨4,v,0,⟨#[]⟩,⟨#[]⟩,false,-1,⟨#[]⟩⟩,?_,?_,az fF (Nat.le_refl _)⟩
    ·rw[HR.out];rfl
    ·rw[HR.out];exact Ih (fun y hy=>Option.some.inj hy)
   ·have Du:Hid (Lz.dh s.data.toList=(Lz.eU s.data.toList 256).or ((Lz.eU s.data.toList 384).or (Lz.eU s.data.toList 512))):=by
     show _=_;unfold Lz.dh
     have h1:(Lib.hasPrefix (Lz.low s.data.toList) Lz.m8&&Lz.eO (s.data.toList.drop 6))=false:=by
      cases hp
      ·have:Lib.hasPrefix (Lz.low s.data.toList) Lz.m8=false:=SD.out;rw[this];rfl
      ·have hd:v.data.toList=s.data.toList.drop 6:=hv.out (by trivial);rw[<-hd,WV.out];cases bb<;>simp_all
     rw[HK.out,h1];rfl
    have gT:(hp=false)\/(hp=true/\bb=false):=by cases hp<;>cases bb<;>simp_all
    clear hN hv SD WV HK;rcases gT with rfl|⟨rfl,rfl⟩
    all_goals
     go_wp2_with (go_at_call 114;(with_reducible refine(cB.out).mono ?_);rintro e w3 ⟨rfl,rfl⟩)
     clear cB
     go_loopw [8] (fun i wr=>aaD s w i wr) (fun i _=>(640-intOf i).toNat)
     case atStart=>exact⟨0,256,by omega,rfl,by omega,Ih (fun j h=>by omega),TD⟩
     case round=>
      clear TD;obtain⟨k2,b,Sm,rfl,vU,ic,TD⟩:=hrel;have Hbk:=Ih vU;by_cases tc:k2<3
      ·have ek:256<=b:=by omega
       have aC:b<=512:=by omega
       have sF:=od k2 tc;have vI:fA k2=b:=by unfold fA;omega
       rw[vI]at sF;have Hil:=Ih sF;have Dl:=Ih vI;clear sF vI vU
       go_wp2_with fail
       refine(NN b (by omega) (by omega) _ (hE.below TD.below)).mono ?_;rintro e w3 ⟨t,rfl,ht,cq⟩;have AG:t.size<=3:=by rw[<-aa,ht.out,Hil.out];omega
       have hQ3:=TD.call cq;clear cq TD
       go_wp2_with fail
       refine(uL s _ (by omega) _).mono ?_;rintro e w4 ⟨v2,rfl,gQ,acu,ex⟩;have hQ4:=hQ3.call ex;clear ex hQ3;have Gr:=xY t b ht.out;rw[Gr]at gQ;rw[Gr];generalize hhp:Lib.hasPrefix (Lz.low s.data.toList) (Lz.qS b)=Av at gQ;have F0:=Ih hhp;have Hsd:=Ih Gr;have W4:=Ih (uF v2 (by omega) w4);generalize qy:Lz.eO v2.data.toList=bb2 at W4;have Gp:=Ih qy;clear hhp qy Gr;by_cases Ld:Av=true/\bb2=true
       ·obtain⟨rfl,rfl⟩:=Ld
        have hd:v2.data.toList=s.data.toList.drop (Lz.qS b).length:=by
         have h:=gQ.out (by trivial);rw[h,<-Hsd.out,aa]
        have KL:Lz.eU s.data.toList (fA k2)=some (Lz.ye v2.data.toList b):=by
         rw[Dl.out];unfold Lz.eU;rw[<-hd,F0.out,Gp.out];rfl
        have HR:Hid (Lz.dh s.data.toList=some (Lz.ye v2.data.toList b)):=by
         show _=_;rw[Du.out,M6 tc ic.out KL]
        clear hd KL gQ;obtain⟨⟨cs,gR,j9⟩,O9,fF⟩:=hQ4;clear O9
        go_wp2_with (first |(go_at_call 114;(with_reducible refine(W4.out).mono ?_);rintro e w3 ⟨rfl,rfl⟩)|(refine bw rfl _ _ rfl w.heap.size rfl rfl _ j9 gR ?_))
        refine bodyPost_ret (bx (u:=3) rfl _ _ w.heap.size ⟨5,v2,b,⟨#[]⟩,⟨#[]⟩,false,-1,⟨#[]⟩⟩ (0,0) rfl (setRow_heap _ _ _ _ _ _ j9)) rfl ⟨⟨5,v2,b,⟨#[]⟩,⟨#[]⟩,false,-1,⟨#[]⟩⟩,?_,?_,az fF (Nat.le_refl _)⟩
        ·rw[HR.out];rfl
        ·rw[HR.out];exact Ih (fun y hy=>Option.some.inj hy)
       ·have jd:Lz.eU s.data.toList (fA k2)=none:=by
         rw[Dl.out];refine sr ?_;rw[F0.out];cases Av
         ·rfl
         ·have h:=gQ.out (by trivial);rw[<-aa,Hsd.out]at h;rw[<-h,Gp.out];cases bb2<;>simp_all
        have wX:=Ih jd;have gT:(Av=false)\/(Av=true/\bb2=false):=by cases Av<;>cases bb2<;>simp_all
        clear jd Ld gQ F0 Gp;rcases gT with rfl|⟨rfl,rfl⟩
        all_goals
         go_wp2_with (go_at_call 114;(with_reducible refine(W4.out).mono ?_);rintro e w3 ⟨rfl,rfl⟩)
         go_roundw
         case rel=>exact⟨k2+1,b+128,by omega,rfl,by have:=Hbk.out;omega,Ih (fun j hj=>by
          by_cases Dt:j<k2
          ·exact ic.out j Dt
          ·obtain rfl:j=k2:=by omega
           exact wX.out),hQ4⟩
         case measure=>simp[intOf];omega
      ·have aC:512<b:=by omega
       have HR:Hid (Lz.dh s.data.toList=none):=by
        show _=_;rw[Du.out,rO (fun j hj=>ic.out j (by omega))]
       obtain⟨⟨cs,gR,j9⟩,O9,fF⟩:=TD;clear O9 vU ic
       go_wp2_with (refine bw rfl _ _ rfl w.heap.size rfl rfl _ j9 gR ?_)
       refine bodyPost_ret (bx (u:=3) rfl _ _ w.heap.size ⟨0,⟨#[]⟩,0,⟨#[]⟩,⟨#[]⟩,false,0,⟨#[]⟩⟩ (0,0) rfl (setRow_heap _ _ _ _ _ _ j9)) rfl ⟨⟨0,⟨#[]⟩,0,⟨#[]⟩,⟨#[]⟩,false,0,⟨#[]⟩⟩,?_,?_,az fF (Nat.le_refl _)⟩
       ·rw[HR.out];rfl
       ·rw[HR.out];exact Ih (fun y hy=>by cases hy)
theorem jV (l:List UInt8) (c:UInt8):Lib.hasSuffix l [c]=(l.getLast? ==some c):=by
 unfold Lib.hasSuffix;rw[Bool.eq_iff_iff,List.isSuffixOf_iff_suffix,beq_iff_eq];constructor
 ·rintro⟨t,rfl⟩;simp
 ·intro h;obtain⟨ys,rfl⟩:=List.getLast?_eq_some_iff.1 h;exact⟨ys,rfl⟩
theorem xN {l:List UInt8} {c:UInt8} (h:Lib.hasSuffix l [c]=true):Lib.trimSuffix l [c]=l.take (l.length-1):=by
 unfold Lib.trimSuffix;rw[if_pos h];rfl
theorem C9 {l:List UInt8} (hq:Lz.iH l=false) (h:Lib.hasSuffix l [58]=true) (hs:Lz.bO (l.take (l.length-1))=true):Lz.bR l=some (Lz.tm (Lz.low (l.take (l.length-1)))):=by
 unfold Lz.bR;rw[hq,h,xN h,hs];rfl
theorem Fe {l:List UInt8} (hq:Lz.iH l=false) (h:Lib.hasSuffix l [58]=true->Lz.bO (l.take (l.length-1))=false):Lz.bR l=Lz.cZ l:=by
 unfold Lz.bR;rw[hq];cases hs:Lib.hasSuffix l [58]
 ·rfl
 ·rw[xN hs,h hs];rfl
theorem zI {l:List UInt8} (hq:Lz.iH l=true):Lz.bR l=Lz.dh ((l.drop 1).dropLast):=by
 unfold Lz.bR;rw[hq];rfl
def oB:aq:=⟨0,⟨#[]⟩,0,⟨#[]⟩,⟨#[]⟩,false,0,⟨#[]⟩⟩
structure p7 (w wx:World) (x:aq):Prop where
 row:wx.heap[w.heap.size]? =some (.cells oB.cells 41 (0,0))
 src:dg wx (w.heap.size+1) x
 below:Below w.heap.size w wx
theorem p7.call {w w1 w2:World} {x:aq} (h:p7 w w1 x) (hb:Below w1.heap.size w1 w2):p7 w w2 x:=by
 obtain⟨h3,h4,h5⟩:=h;exact⟨by rw[hb.block _ (Array.getElem?_eq_some_iff.1 h3).1];exact h3,h4.below hb,ac h5 hb⟩
theorem p7.store {w w1:World} {x:aq} (h:p7 w w1 x) (y:aq):p7 w (w1.setRow (w.heap.size+1) y.cells) y:=by
 obtain⟨h3,h4,h5⟩:=h;refine⟨?_,setRow_heap _ _ _ _ _ _ h4,az h5 (by omega)⟩;rw[setRow_other _ _ _ _ (by omega)];exact h3
def aaE (s:ByteArray) (w:World) (v:Value) (wx:World):Prop:=
 ∃(b:Bool) (x:aq),v=.bool b/\p7 w wx x/\Hid (b=(Lz.bR s.data.toList).isSome/\∀y,Lz.bR s.data.toList=some y->x.src=y)
theorem C6 (s:ByteArray) (hs:s.size<=1048576) (w:World) (hE:Env w):Calls Tryz.prog 43 #[.string s] w (ML s.data.toList w):=by
 obtain⟨q,hq⟩:∃q,q=Lz.iH s.data.toList:=⟨_,rfl⟩;have Hq:=Ih hq;clear hq
 have Li:p7 w ((w.alloc (.cells #[.int .i64 0,.string ⟨#[]⟩,.int .i64 0,.string ⟨#[]⟩,.string ⟨#[]⟩,.bool false,.int .i64 0,.string ⟨#[]⟩] 41)).alloc (.cells #[.int .i64 0,.string ⟨#[]⟩,.int .i64 0,.string ⟨#[]⟩,.string ⟨#[]⟩,.bool false,.int .i64 0,.string ⟨#[]⟩] 41)) oB:=by
  refine⟨(jg (Below.refl _ _)).1,(jg (Below.refl _ _)).2,((Below.refl _ w).alloc (Nat.le_refl _) _).alloc (by simp) _⟩
 go_enter Tryz.func43,Tryz.ntmps43
 go_upto_region 3 with fail
 go_cut [21] (fun s21 wx=>s21=.bool q/\p7 w wx oB)
 case first=>
  by_cases h1:1<s.size
  ·have h0:0<s.size:=by omega
   have hl:s.size-1<s.size:=by omega
   have g0:=Ic h0;have g1:=tj h0
   have sY:q=((s[0].toNat:Int)==39&&((s[s.size-1].toNat:Int)==39)):=by
    rw[Hq.out];unfold Lz.iH;rw[g0,g1,aa,decide_eq_true h1];have e1:=jD s[0] 39;have e2:=jD (s[s.size-1]'(by omega)) 39;simp only[Bool.true_and];rw[show((39:UInt8).toNat:Int)=39 from rfl]at e1 e2;rw[e1,e2];rfl
   have OT:=Ih sY;clear sY g0 g1;generalize ha:((s[0].toNat:Int)==39)=a at OT;generalize hb:((s[s.size-1].toNat:Int)==39)=b at OT;cases a<;>cases b
   all_goals
    go_wp2_with fail
    all_goals
     go_meet;exact⟨by have h:=OT.out;subst h;rfl,Li⟩
  ·have sY:q=false:=by
    rw[Hq.out];unfold Lz.iH;rw[aa,decide_eq_false h1];rfl
   have OT:=Ih sY;clear sY;have An:(s.size:Int)<=1:=by omega
   clear h1
   go_wp2_with fail
   all_goals
    go_meet;exact⟨by have h:=OT.out;subst h;rfl,Li⟩
 case rest=>
  clear Li;obtain⟨rfl,Li⟩:=hcut
  go_upto_if 21 with fail
  go_cut [5] (fun s5 wx=>aaE s w s5 wx)
  case first=>
   cases q
   ·by_cases SG:(∃h:1<s.size,s[s.size-1]=58/\Lz.bO (s.extract 0 (s.size-1)).data.toList=true)
    ·obtain⟨h1,hc,Lq⟩:=SG;have hl:s.size-1<s.size:=by omega
     have hb:((s[s.size-1].toNat:Int)==58)=true:=(jD _ 58).trans (by simpa using hc);have g1:=tj (show 0<s.size by omega);have hd:s.data.toList.take (s.data.toList.length-1)=(s.extract 0 (s.size-1)).data.toList:=by rw[dQ,aa]
     have HP:Hid (Lz.bR s.data.toList=some (Lz.tm (Lz.low (s.extract 0 (s.size-1)).data.toList))):=by
      show _=_;rw[<-hd];exact C9 Hq.out.symm (by rw[jV,g1,hc];rfl) (by rw[hd];exact Lq)
     have hz:=aZ s 0 (s.size-1);have cS:=Ih (lH (s.extract 0 (s.size-1)) (by omega) wc);rw[Lq]at cS;have cL:=Ih (fh (s.extract 0 (s.size-1)) (by omega) wc);clear hc Lq g1 hd
     go_wp2_with (go_at_call 75;(with_reducible refine(cS.out).mono ?_);rintro e w3 ⟨rfl,rfl⟩)
     (with_reducible refine(cL.out).mono ?_)
     rintro e w2 ⟨u,rfl,hu,aU⟩;have Lp:=Li.call aU;have As:=Lp.src;unfold dg oB at As;simp only[aq.cells]at As;clear aU Li
     go_wp2_with (refine bw rfl _ _ rfl (w.heap.size+1) rfl rfl _ As rfl ?_)
     go_meet;refine⟨true,⟨2,⟨#[]⟩,0,u,⟨#[]⟩,false,-1,⟨#[]⟩⟩,rfl,Lp.store ⟨2,⟨#[]⟩,0,u,⟨#[]⟩,false,-1,⟨#[]⟩⟩,?_⟩;refine⟨by rw[HP.out];rfl,fun y hy=>?_⟩;rw[HP.out]at hy;rw[<-Option.some.inj hy];unfold aq.src;rw[hu.out];rfl
    ·have HP:Hid (Lz.bR s.data.toList=Lz.cZ s.data.toList):=by
      show _=_;refine Fe Hq.out.symm fun h=>?_;by_cases h1:1<s.size
      ·have g1:=tj (show 0<s.size by omega);have hd:s.data.toList.take (s.data.toList.length-1)=(s.extract 0 (s.size-1)).data.toList:=by rw[dQ,aa]
       rw[jV,g1]at h;have hc:s[s.size-1]=58:=by simpa using h
       rw[hd];cases hb:Lz.bO (s.extract 0 (s.size-1)).data.toList
       ·rfl
       ·exact absurd ⟨h1,hc,hb⟩ SG
      ·have:s.data.toList.take (s.data.toList.length-1)=[]:=by rw[aa,show s.size-1=0 by omega];rfl
       rw[this];rfl
     have cH:=Ih (fun w=>E6 s hs w)
     have gT:(s.size:Int)<=1\/(∃h:1<s.size,¬s[s.size-1]=58)\/(∃h:1<s.size,s[s.size-1]=58/\Lz.bO (s.extract 0 (s.size-1)).data.toList=false):=by
      by_cases h1:1<s.size
      ·by_cases hc:s[s.size-1]=58
       ·refine Or.inr (Or.inr ⟨h1,hc,?_⟩);cases hb:Lz.bO (s.extract 0 (s.size-1)).data.toList
        ·rfl
        ·exact absurd ⟨h1,hc,hb⟩ SG
       ·exact Or.inr (Or.inl ⟨h1,hc⟩)
      ·exact Or.inl (by omega)
     clear SG;rcases gT with h1|⟨h1,hc⟩|⟨h1,hc,Lq⟩
     case' inr.inl=>
      have hl:s.size-1<s.size:=by omega
      have hb:((s[s.size-1].toNat:Int)==58)=false:=(jD _ 58).trans (by simpa using hc);clear hc
     case' inr.inr=>
      have hl:s.size-1<s.size:=by omega
      have hb:((s[s.size-1].toNat:Int)==58)=true:=(jD _ 58).trans (by simpa using hc);have hz:=aZ s 0 (s.size-1);have cS:=Ih (lH (s.extract 0 (s.size-1)) (by omega) wc);rw[Lq]at cS;clear hc Lq
     all_goals
      go_wp2_with (go_at_call 75;(with_reducible refine(cS.out).mono ?_);rintro e w3 ⟨rfl,rfl⟩)
      (with_reducible refine(cH.out _).mono ?_)
      rintro e w2 ⟨x,rfl,hx,aU⟩;obtain⟨k1,t1,b1,aS,oW,F2,FT,bF⟩:=x
      dsimp only[aq.val]
      obtain⟨ob,Of⟩:∃ob,ob=(Lz.cZ s.data.toList).isSome:=⟨_,rfl⟩;rw[<-Of];have Xn:=Ih Of;have Lp:=Li.call aU;have As:=Lp.src;unfold dg oB at As;simp only[aq.cells]at As;clear aU Li Of
      go_wp2_with (refine bw rfl _ _ rfl (w.heap.size+1) rfl rfl _ As rfl ?_)
      go_meet;refine⟨_,⟨k1,t1,b1,aS,oW,F2,FT,bF⟩,rfl,Lp.store ⟨k1,t1,b1,aS,oW,F2,FT,bF⟩,?_⟩;exact⟨by rw[HP.out];exact Xn.out,fun y hy=>hx.out y (by rw[<-HP.out];exact hy)⟩
   ·have h1:(1:Int)<s.size:=by
     have h:=Hq.out.symm;unfold Lz.iH at h;simp only[Bool.and_eq_true,decide_eq_true_eq]at h;have:=h.1.1;rw[aa]at this;omega
    have hz:=aZ s 1 (s.size-1);have cQ:=Ih (fun w hE=>Af (s.extract 1 (s.size-1)) (by omega) w hE)
    have HP:Hid (Lz.bR s.data.toList=Lz.dh (s.extract 1 (s.size-1)).data.toList):=by
     show _=_;rw[zI Hq.out.symm,ky]
    go_wp2_with fail
    (with_reducible refine(cQ.out _ (hE.below Li.below)).mono ?_)
    rintro e w2 ⟨x,rfl,hx,aU⟩;obtain⟨k1,t1,b1,aS,oW,F2,FT,bF⟩:=x
    dsimp only[aq.val]
    obtain⟨ob,Of⟩:∃ob,ob=(Lz.dh (s.extract 1 (s.size-1)).data.toList).isSome:=⟨_,rfl⟩;rw[<-Of];have Xn:=Ih Of;have Lp:=Li.call aU;have As:=Lp.src;unfold dg oB at As;simp only[aq.cells]at As;clear aU Li Of
    go_wp2_with (refine bw rfl _ _ rfl (w.heap.size+1) rfl rfl _ As rfl ?_)
    go_meet;refine⟨_,⟨k1,t1,b1,aS,oW,F2,FT,bF⟩,rfl,Lp.store ⟨k1,t1,b1,aS,oW,F2,FT,bF⟩,?_⟩;exact⟨by rw[HP.out];exact Xn.out,fun y hy=>hx.out y (by rw[<-HP.out];exact hy)⟩
  case rest=>
   clear Li;obtain⟨b,x,rfl,hP,HB⟩:=hcut;obtain⟨k1,t1,b1,aS,oW,F2,FT,bF⟩:=x;obtain⟨hR,hT,fF⟩:=hP;unfold oB at hR;unfold dg at hT;simp only[aq.cells]at hR hT;cases hp:Lz.bR s.data.toList with
   | none=>
     have hb:b=false:=by rw[HB.out.1,hp];rfl
     have HE:Hid (fD s.data.toList=250/\jv s.data.toList=⟨0,[],0,[],[],false,0,[]⟩):=by refine⟨?_,?_⟩<;>simp[fD,jv,hp]
     clear hp HB;subst hb
     go_wp2_with (refine bw rfl _ _ rfl w.heap.size rfl rfl _ hR rfl ?_)
     refine bodyPost_ret (jc (u:=3) rfl _ _ w.heap.size ⟨0,⟨#[]⟩,0,⟨#[]⟩,⟨#[]⟩,false,0,⟨#[]⟩⟩ (0,0) 250 rfl rfl (setRow_heap _ _ _ _ _ _ hR)) rfl ⟨⟨0,⟨#[]⟩,0,⟨#[]⟩,⟨#[]⟩,false,0,⟨#[]⟩⟩,by rw[HE.out.1],by show _=_;rw[HE.out.2];rfl,az fF (Nat.le_refl _)⟩
   | some y=>
     have hb:b=true:=by rw[HB.out.1,hp];rfl
     have HY:=Ih (HB.out.2 y hp);have HE:Hid (fD s.data.toList=0/\jv s.data.toList=y):=by refine⟨?_,?_⟩<;>simp[fD,jv,hp]
     clear hp HB;subst hb
     go_wp2_with (first |(refine wpList_load_row rfl 41 _ rfl (w.heap.size+1) rfl 41 _ (0,0) _ hT Tryz.underlying41 rfl nz ?_)|(refine bw rfl _ _ rfl w.heap.size rfl rfl _ hR rfl ?_))
     refine bodyPost_ret (jc (u:=3) rfl _ _ w.heap.size ⟨k1,t1,b1,aS,oW,F2,FT,bF⟩ (0,0) 0 rfl rfl (setRow_heap _ _ _ _ _ _ hR)) rfl ⟨⟨k1,t1,b1,aS,oW,F2,FT,bF⟩,by rw[HE.out.1],by show _=_;rw[HE.out.2];exact HY.out,az fF (Nat.le_refl _)⟩
end Go.Proofs.YtlcbhacofagedaaGreatDoor
namespace Go.Proofs.YtlcbhacofagedaaGreatDoor
open Go.ChangeShapes Go.WideShapes Go.ChangeAt Go.RowKit
theorem iD:Tryz.prog.cellsOf 9=1:=by kernel_rfl
theorem tI:Tryz.prog.cellsOf 4=1:=by kernel_rfl
theorem cellsIn:Tryz.prog.cellsOf 3=1:=by kernel_rfl
theorem PJ:Tryz.prog.cellsOf 23=1:=by kernel_rfl
section
variable {H:Type} {enc:TypeId×Value->H} {W:World} {base:Nat} {sp:Nat->Bool} {hd:Bool} {v:Value} {fuel:Nat} {x:Option (DataW H×List MemPlace)}
theorem iB (h:DataW.trod enc Tryz.prog W base sp hd fuel 9 [v]=x) (hx:x.isSome=true):∃s:ByteArray,v=.string s:=by
 obtain⟨y,rfl⟩:=Option.isSome_iff_exists.1 hx;obtain⟨s,h1,_⟩:=DataW.trod_string Tryz.underlying9 h;exact⟨s,List.singleton_inj.1 h1⟩
theorem nJ (h:DataW.trod enc Tryz.prog W base sp hd fuel 4 [v]=x) (hx:x.isSome=true):∃b:Bool,v=.bool b:=by
 obtain⟨y,rfl⟩:=Option.isSome_iff_exists.1 hx;obtain⟨b,h1,_⟩:=DataW.trod_bool Tryz.underlying4 h;exact⟨b,List.singleton_inj.1 h1⟩
theorem LB (h:DataW.trod enc Tryz.prog W base sp hd fuel 3 [v]=x) (hx:x.isSome=true):∃n:Int,v=.int .i64 n/\ -9223372036854775808<=n/\n<=9223372036854775807:=by
 obtain⟨y,rfl⟩:=Option.isSome_iff_exists.1 hx;obtain⟨n,h1,_,hw⟩:=DataW.trod_int Tryz.underlying3 h;simp only[Lit.wf,Bool.and_eq_true,decide_eq_true_eq]at hw;rw[show IntKind.i64.min= -9223372036854775808 by decide,show IntKind.i64.max=9223372036854775807 by decide]at hw;exact⟨n,List.singleton_inj.1 h1,hw.1,hw.2⟩
theorem xk (h:DataW.trod enc Tryz.prog W base sp hd fuel 23 [v]=x) (hx:x.isSome=true):∃l,dy W v l:=by
 obtain⟨y,rfl⟩:=Option.isSome_iff_exists.1 hx;rcases open_strings Tryz.underlying23 Tryz.underlying9 iD h with⟨h0,_⟩|⟨a,len,cap,ss,iV,_,hl,hm,hz,_,dF,_⟩
 ·obtain rfl:=List.singleton_inj.1 h0;exact⟨[],none,0,[],rfl,rfl,fun j x hj=>by simp at hj⟩
 ·obtain rfl:=List.singleton_inj.1 iV;have bv:len<=ss.length:=by rw[hz];split<;>omega
  refine⟨_,some a,cap,ss.take len,by rw[List.length_take,Nat.min_eq_left bv],rfl,fun j x hj=>?_⟩
  have hj':j<len:=by
   have:=(List.getElem?_eq_some_iff.1 hj).1;rw[List.length_take]at this;omega
  have Ir:ss[j]? =some x:=by
   rw[List.getElem?_take,if_pos hj']at hj;exact hj
  have hc:=dF j (by omega);rw[List.getD_eq_getElem?_getD,Ir]at hc;change W.cell? (a.add j)=some (.string x)at hc;obtain⟨B,off,Ot⟩:=a
  have Ze:Ot=none:=by
   have h1:=dF 0 (by omega);simpa [Addr.add]using World.cell?_spot h1
  subst Ze;rw[Go.WideShapes.add_plain]at hc;exact⟨B,off,rfl,World.block_lt_of_cell? _ _ hc,hc⟩
theorem gb {f:Field} {cs:List Value} {t:TypeId} {y:Option (DataW H×List MemPlace)} (h:DataW.trod enc Tryz.prog W base sp hd fuel f.type ((cs.drop f.offset).take (Tryz.prog.cellsOf f.type))=y) (ht:f.type=t) (hc:Tryz.prog.cellsOf t=1) {c:Value} {r:List Value} (hd':cs.drop f.offset=c::r):DataW.trod enc Tryz.prog W base sp hd fuel t [c]=y:=by
 subst ht;rw[hc,hd']at h;exact h
end
theorem aav {H:Type} {enc:TypeId×Value->H} {W:World} {base:Nat} {sp:Nat->Bool} {hd:Bool} {v:Value} {d:DataW H} {ps:List MemPlace} {r:Reach} {b0:Nat}
  (hv:Value.okWide Tryz.prog W r b0 26 v) (h:DataW.Trod enc Tryz.prog W base sp hd 26 v d ps):∃u:Lz.af,bz W v u/\ -9223372036854775808<=u.port/\u.port<=9223372036854775807:=by
 simp only[Value.okWide,Tryz.underlying26]at hv;obtain⟨⟨cs⟩,rfl,dV,_⟩:=hv;have hc:Tryz.prog.cellsOf 26=12:=by kernel_rfl
 rw[hc]at dV;obtain⟨fuel,hf⟩:=h;obtain⟨xs,n,_,_,_,bv,hx⟩:=DataW.trod_struct Tryz.underlying26 hf
 have lZ:∀i,i<12->xs[i]?.isSome=true:=fun i hi=>by
  rw[List.getElem?_eq_getElem (by rw[bv];exact hi)];rfl
 clear hf
 match cs,dV with
 | [a,b,c,e,f,g,i,j,k,l,m,o],_=>
   have h0:=gb (hx 0 _ rfl) rfl iD rfl;have h1:=gb (hx 1 _ rfl) rfl iD rfl;have h2:=gb (hx 2 _ rfl) rfl iD rfl;have h3:=gb (hx 3 _ rfl) rfl tI rfl;have h4:=gb (hx 4 _ rfl) rfl iD rfl;have h5:=gb (hx 5 _ rfl) rfl cellsIn rfl;have h6:=gb (hx 6 _ rfl) rfl tI rfl;have h7:=gb (hx 7 _ rfl) rfl PJ rfl;have h8:=gb (hx 8 _ rfl) rfl tI rfl;have h9:=gb (hx 9 _ rfl) rfl tI rfl;have Lo:=gb (hx 10 _ rfl) rfl iD rfl;have h11:=gb (hx 11 _ rfl) rfl iD rfl;obtain⟨sch,rfl⟩:=iB h0 (lZ 0 (by omega));obtain⟨usr,rfl⟩:=iB h1 (lZ 1 (by omega));obtain⟨pas,rfl⟩:=iB h2 (lZ 2 (by omega));obtain⟨hh,rfl⟩:=nJ h3 (lZ 3 (by omega));obtain⟨hst,rfl⟩:=iB h4 (lZ 4 (by omega));obtain⟨prt,rfl,p0,p1⟩:=LB h5 (lZ 5 (by omega));obtain⟨opq,rfl⟩:=nJ h6 (lZ 6 (by omega));obtain⟨pth,hp⟩:=xk h7 (lZ 7 (by omega));obtain⟨hq,rfl⟩:=nJ h8 (lZ 8 (by omega));obtain⟨sD,rfl⟩:=nJ h9 (lZ 9 (by omega));obtain⟨qry,rfl⟩:=iB Lo (lZ 10 (by omega));obtain⟨frg,rfl⟩:=iB h11 (lZ 11 (by omega));have hp':=hp
   obtain⟨a7,c7,xs7,rfl,rfl,_⟩:=hp';exact⟨_,⟨⟨sch,usr,pas,hh,hst,prt,opq,_,xs7,hq,sD,qry,frg⟩,rfl,hp,rfl⟩,p0,p1⟩
section
variable {H:Type} {enc:TypeId×Value->H} {W:World} {base:Nat} {sp:Nat->Bool} {hd:Bool} {v:Value} {d:DataW H} {ps:List MemPlace} {r:Reach} {b0:Nat}
theorem Qi (hv:Value.okWide Tryz.prog W r b0 23 v) (h:DataW.Trod enc Tryz.prog W base sp hd 23 v d ps):∃l,dy W v l/\True:=by
 obtain⟨a0,abK,Zd,rfl⟩:=okWide_slice Tryz.underlying23 hv;obtain⟨fuel,hf⟩:=h;have fW:DataW.trod enc Tryz.prog W base sp hd fuel 23 [.slice a0 abK Zd]=some (d,ps):=hf;obtain⟨l,hl⟩:=xk fW rfl;exact⟨l,hl,trivial⟩
theorem QW (hv:Value.okWide Tryz.prog W r b0 22 v) (h:DataW.Trod enc Tryz.prog W base sp hd 22 v d ps):∃s0 s1:ByteArray,v=.agg #[.string s0,.string s1]:=by
 simp only[Value.okWide,Tryz.underlying22]at hv;obtain⟨⟨cs⟩,rfl,dV,_⟩:=hv;have h2:Tryz.prog.cellsOf 22=2:=by kernel_rfl
 rw[h2]at dV
 match cs,dV with
 | [a,b],_=>
   obtain⟨fuel,hf⟩:=h;cases fuel with
   | zero=>simp[DataW.trod]at hf
   | succ m=>
     rw[DataW.trod_step]at hf;unfold DataW.trodStep at hf;simp only[Tryz.underlying22,Value.cells,h2,iD]at hf
     simp[List.range,List.range.loop,Option.bind_eq_some_iff]at hf
     obtain⟨_,_,ha,_,⟨_,_,hb,_⟩,_⟩:=hf;obtain⟨s0,rfl⟩:=iB ha rfl;obtain⟨s1,rfl⟩:=iB hb rfl;exact⟨s0,s1,rfl⟩
end
end Go.Proofs.YtlcbhacofagedaaGreatDoor
