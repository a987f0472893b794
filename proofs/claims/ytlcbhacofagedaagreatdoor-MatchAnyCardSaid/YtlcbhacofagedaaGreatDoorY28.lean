/-
  lazaretref07: Parse.
-/
import Derived.Test.YtlcbhacofagedaaGreatDoorY24
import Derived.Test.YtlcbhacofagedaaGreatDoorY25
set_option maxHeartbeats 2000000
set_option maxRecDepth 100000
namespace Go.Proofs.YtlcbhacofagedaaGreatDoor
open Go.RowKit
theorem Yk (c d:UInt8):(⟨#[c,d]⟩:ByteArray).size=2:=rfl
theorem GP (s:ByteArray):s.toList.isEmpty=decide (s.data.toList=[]):=by
 by_cases h:s.data.toList=[]
 ·rw[decide_eq_true h];exact ak (by rw[<-aa,h];rfl)
 ·rw[decide_eq_false h];exact aj (by rw[<-aa];exact List.length_pos_iff.2 h)
theorem gM:∀(k n:Nat),n<10^(k+1)->(Lib.decDigits n).length<=k+1
 | 0,n,h=>by rw[Lib.decDigits,dif_pos (by simpa using h)];simp
 | k+1,n,h=>by
   rw[Lib.decDigits];split
   ·simp
   ·rw[List.length_append];have:=gM k (n / 10) (by rw[Nat.pow_succ]at h;omega)
    simp
    omega
theorem kF {n:Int} (h0: -9223372036854775808<=n) (h1:n<=9223372036854775807):(Lib.itoa n).length<=21:=by
 unfold Lib.itoa;split
 ·have:=gM 19 n.natAbs (by omega)
  simp
  omega
 ·have:=gM 19 n.toNat (by omega);omega
def AtE (w1 W:World):Prop:=de W/\Below w1.heap.size w1 W
def AtS (hst:ByteArray) (prt:Int) (B:Nat) (w W:World):Prop:=W.cell? ⟨B,4,none⟩=some (.string hst)/\W.cell? ⟨B,5,none⟩=some (.int .i64 prt)/\AtE w W
theorem Um (v:Value) (u:Lz.af) (w:World) (hv:bz w v u) (hE:de w) (h0: -9223372036854775808<=u.port) (h1:u.port<=9223372036854775807) (hL:u.host.length<=1000000000):Calls Tryz.prog 85 #[v] w (gl (Lz.atU u) w):=by
 obtain⟨sch,usr,pas,hh,hst,prt,opq,a,c,xs,hq,hf,qry,frg,rfl,rfl,hx⟩:=hv.form;replace h0: -9223372036854775808<=prt:=h0;replace h1:prt<=9223372036854775807:=h1;replace hL:hst.data.toList.length<=1000000000:=hL;rw[aa]at hL;obtain⟨goal,hg⟩:∃goal,goal=Lz.atU ⟨sch.data.toList,usr.data.toList,pas.data.toList,hh,hst.data.toList,prt,opq,xs.map (fun x:ByteArray=>x.data.toList),hq,hf,qry.data.toList,frg.data.toList⟩:=⟨_,rfl⟩;rw[<-hg];have wZ:goal=if prt= -1 then hst.data.toList else hst.data.toList++[58]++Lib.itoa prt:=hg;have HG:=Ih wZ;obtain⟨W,hW⟩:∃W,W=w.alloc (.cells #[.string sch,.string usr,.string pas,.bool hh,.string hst,.int .i64 prt,.bool opq,.slice a xs.length c,.bool hq,.bool hf,.string qry,.string frg] 26):=⟨_,rfl⟩;have bg:Below w.heap.size w W:=by rw[hW];exact(Below.refl _ w).alloc (Nat.le_refl _) _
 have hR:W.heap[w.heap.size]? =some (.cells #[.string sch,.string usr,.string pas,.bool hh,.string hst,.int .i64 prt,.bool opq,.slice a xs.length c,.bool hq,.bool hf,.string qry,.string frg] 26 (0,0)):=by rw[hW];exact aK _ _
 have aN:=aI hR;have c4:=rowAt hR 4 (.string hst) rfl;have c5:=rowAt hR 5 (.int .i64 prt) rfl;have HW:=Ih hW;have HE:=Ih (hE.below bg);clear hW hR hv hx hg wZ hE;by_cases hp:prt= -1
 ·have vY:(prt== -1)=true:=by simp[hp]
  have kQ:Hid (goal=hst.data.toList):=by show _=_;rw[HG.out,if_pos hp]
  clear hp;go_enter Tryz.func85,Tryz.ntmps85
  go_wp2_with (rw[<-HW.out])
  go_ret;exact⟨hst,rfl,Ih kQ.out.symm,bg⟩
 ·have vY:(prt== -1)=false:=by simp[hp]
  have kQ:Hid (goal=hst.data.toList++[58]++Lib.itoa prt):=by show _=_;rw[HG.out,if_neg hp]
  clear hp;have n1:¬(9223372036854775807<hst.size+1):=by omega
  have K2:AtS hst prt w.heap.size W W.drew:=⟨c4,c5,HE.out.below (Below.refl _ _).drew,(Below.refl _ _).drew⟩
  have cI:Hid (∀V,AtS hst prt w.heap.size W V->Calls Tryz.prog 62 #[.int .i64 prt] V fun e w'=>∃u:ByteArray,e=.returned (.string u)/\Hid (u.data.toList=Lib.itoa prt)/\u.size<=21/\AtS hst prt w.heap.size W w'):=Ih (by
   rintro V ⟨k4,k5,kE,kb⟩;refine(lp prt h0 h1 V kE).mono ?_;rintro e w' ⟨u,he,hu,Gg⟩;have sW:=Nat.lt_of_lt_of_le aN kb.size;exact⟨u,he,hu,by rw[<-aa,hu.out];exact kF h0 h1,by rw[Gg.cell (p:=⟨w.heap.size,4,none⟩) sW];exact k4,by rw[Gg.cell (p:=⟨w.heap.size,5,none⟩) sW];exact k5,kE.below Gg,ac kb Gg⟩)
  go_enter Tryz.func85,Tryz.ntmps85
  go_wp2_with (rw[<-HW.out])
  go_upto_region 3 with fail
  go_cut [2] (fun s wx=>∃u:ByteArray,s=.string u/\Hid (u.data.toList=goal)/\Below w.heap.size w wx)
  case first=>
   go_region_held3 (fun V=>V.cell? ⟨w.heap.size,4,none⟩=some (.string hst)/\V.cell? ⟨w.heap.size,5,none⟩=some (.int .i64 prt)/\AtE W V) (first |assumption|exact K2) (first |(go_at_call 62;refine(cI.out _ (by assumption)).mono ?_;rintro e w2 ⟨t,rfl,ht,hs,hS2⟩;have n2:¬(9223372036854775807<hst.size+1+t.size):=(by omega)))
   go_wp2_with fail
   go_meet;exact⟨_,rfl,by show _=_;rw[kQ.out,ai,ai,ht.out],bg.trans (hS2.2.2.2.mono bg.size)⟩
  case rest=>
   obtain⟨u,rfl,hu,hb⟩:=hcut
   go_wp2_with fail
   go_ret;exact⟨_,rfl,hu,hb⟩
theorem ET {s:List UInt8} {l:List (List UInt8)} (h:s=Lz.fileS/\l.length=1/\Lz.fL l=true):Lz.bJ s l=l:=by unfold Lz.bJ;rw[if_pos h]
theorem DZ (p:Addr) (k:Nat) (xs:List ByteArray) (hn:xs.length=k+1) (w:World)
  (aO:∀(j:Nat) (x:ByteArray),xs[j]? =some x->w.cell? (p.add j)=some (.string x)):
  (xs.dropLast.map Value.string).length=k/\∀(j:Nat) (u:Value),(xs.dropLast.map Value.string)[j]? =some u->w.cell? (p.add j)=some u:=by
 refine⟨by simp[hn],fun j u hj=>?_⟩;rw[List.getElem?_map,Option.map_eq_some_iff]at hj;obtain⟨x,hx,rfl⟩:=hj;have jR:=(List.getElem?_eq_some_iff.1 hx).1;rw[List.length_dropLast]at jR;exact aO j x (by rw[<-List.getElem?_take_of_lt (show j<xs.length-1 from jR),<-List.dropLast_eq_take,hx])
theorem wy (B:Nat) (sc:ByteArray) (v:Value) (xs:List ByteArray) (w:World) (h:aX w B v xs) (hB:B<=w.heap.size) (hL:xs.length<=1000000000):
  Calls Tryz.prog 26 #[.string sc,v] w (zJ B (Lz.bJ sc.data.toList (xs.map (fun x:ByteArray=>x.data.toList))) w):=by
 obtain⟨i0,hi,ig,fs,fk⟩:=info_parts tt;obtain⟨a,c,rfl,hc,aO⟩:=h.form;have h0:=Ih h;obtain⟨goal,hg⟩:∃goal,goal=Lz.bJ sc.data.toList (xs.map (fun x:ByteArray=>x.data.toList)):=⟨_,rfl⟩;have HG:=Ih hg;rw[<-hg];clear h hg;obtain⟨n,hn⟩:∃n,n=xs.length:=⟨_,rfl⟩;cases n with
 | zero=>
   obtain rfl:xs=[]:=List.length_eq_zero_iff.1 hn.symm;have HR:Hid (zJ B goal w (.returned (.slice a 0 c)) w):=⟨a,0,c,[],rfl,by rw[HG.out,List.map_nil,tW],h0.out,Below.refl _ _⟩;clear aO hn;go_enter Tryz.func26,Tryz.ntmps26
   go_wp2_with fail
   go_ret;exact HR.out
 | succ k=>
   obtain⟨x0,Px⟩:∃x0,xs[0]? =some x0:=⟨_,List.getElem?_eq_getElem (by omega)⟩;obtain⟨G,off,rfl,OS,j8⟩:=aO 0 x0 Px
   have qA:∀(j:Nat) (x:ByteArray),xs[j]? =some x->w.cell? ((⟨G,off,none⟩:Addr).add j)=some (.string x):=fun j x hj=>by
    obtain⟨G',abL,e,_,DK⟩:=aO j x hj;injection e with e;injection e with e1 e2
    subst e1;subst e2;rw[show(⟨G,off,none⟩:Addr).add j=⟨G,off+j,none⟩ by simp[Addr.add]];exact DK
   obtain⟨Y2,RH⟩:=DZ ⟨G,off,none⟩ k xs hn.symm w qA;have Xc:=Ih Y2;have Hnc:=Ih RH;have TC:((k+1:Nat):Int)-1=(k:Int):=by omega
   have acA:(k:Int)+1-1=(k:Int):=by omega
   have Sy:k<=1000000000:=by omega
   have hkc:k<=c:=by omega
   have iN:(((k+1:Nat):Int)==0)=false:=by rw[beq_eq_false_iff_ne];omega
   have acr:((k:Int)+1==0)=false:=by rw[beq_eq_false_iff_ne];omega
   have HK:Hid (sc.data.toList=Lz.fileS/\k=0/\(Lz.bu x0.data.toList&&x0.data.toList[1]? ==some 58)=true->zJ B goal w (.returned (.slice (some ⟨G,off,none⟩) (k+1) c)) w):=by
    intro⟨h1,h2,h3⟩;subst h2
    match xs,hn,h3,Px,h0 with
    | [x],_,h3,Px,h0=>
      obtain rfl:=Option.some.inj Px;exact⟨_,_,_,[x],rfl,by rw[HG.out];exact(ET (l:=[x.data.toList]) ⟨h1,rfl,h3⟩).symm,h0.out,Below.refl _ _⟩
   have HD:Hid (¬(sc.data.toList=Lz.fileS/\k=0/\(Lz.bu x0.data.toList&&x0.data.toList[1]? ==some 58)=true)->goal=xs.dropLast.map (fun x:ByteArray=>x.data.toList)):=by
    intro ic;rw[HG.out,rQ,map_dropLast];intro⟨h1,h2,h3⟩;refine ic ⟨h1,by simpa [<-hn]using h2,?_⟩
    match xs,hn,h2,h3,Px with
    | [x],_,_,h3,Px=>obtain rfl:=Option.some.inj Px;exact h3
   have cR:=EH x0 w;rw[<-hn]at hc;rw[<-hn];obtain⟨dq,R9⟩:∃dq,dq=(Lz.bu x0.data.toList&&x0.data.toList[1]? ==some 58):=⟨_,rfl⟩;rw[<-R9]at cR HK HD;clear R9;have CR:=Ih cR;have aco:w.cell? ⟨G,off,none⟩=some (.string x0):=by rw[<-j8];rfl
   clear cR aO qA Y2 RH HG hn j8 Px h0;obtain⟨ys,jl⟩:∃ys,ys=xs.dropLast:=⟨_,rfl⟩;rw[<-jl]at HD Xc Hnc;clear jl
   have HZ:Hid (k=0->goal=ys.map (fun x:ByteArray=>x.data.toList)->zJ B goal w (.returned (.slice none 0 0)) w):=by
    intro e hg;have hz:ys=[]:=List.eq_nil_of_length_eq_zero (by have:=Xc.out;rw[List.length_map]at this;omega);exact⟨none,0,0,[],rfl,by rw[hg,hz],aX.nil _ _,Below.refl _ _⟩
   by_cases jm:sc.data.toList=Lz.fileS
   ·have g0:=aH (k:=[102,105,108,101]) jm;by_cases kq:k=0
    ·have k1:((k:Int)+1==1)=true:=by rw[kq];rfl
     cases dq with
     | true=>
       have HE:=Ih (HK.out ⟨jm,kq,rfl⟩);clear HD HK jm kq hL;go_enter Tryz.func26,Tryz.ntmps26
       go_wp2_with fail
       refine CR.out.mono ?_;rintro e w1 ⟨rfl,rfl⟩
       go_wp2_with fail
       go_ret;exact HE.out
     | false=>
       have HE:=Ih (HD.out (fun h=>absurd h.2.2 (by simp)));clear HD HK jm hL;go_enter Tryz.func26,Tryz.ntmps26
       go_wp2_with fail
       refine CR.out.mono ?_;rintro e w1 ⟨rfl,rfl⟩
       go_wp2_with fail
       go_ret;exact HZ.out kq HE.out
    ·have k1:((k:Int)+1==1)=false:=by rw[beq_eq_false_iff_ne];omega
     have HE:=Ih (HD.out (fun h=>kq h.2.1));clear HD HK jm hL HZ kq;go_enter Tryz.func26,Tryz.ntmps26
     go_wp2_with (at_builtin;refine wpList_append_own _ rfl (.const (.slice none 0 0)) (.tmp 28) 23 rfl B 9 i0 (.string ⟨#[]⟩) 1 16 Tryz.underlying23 hi ig fs fk rfl (by decide) _ 0 [] rfl (World.ownsRow_nil _ B _ _) ⟨G,off,none⟩ k c (ys.map Value.string) rfl (by rw[Nat.mul_one];exact Xc.out) Hnc.out (by simp[Value.oneCell']) (by unfold maxLen;omega) (by omega) hB ?_)
     intro v' w' aQ hg _;have hb:Below w.heap.size w w':=(Below.refl _ w).grown hg (Nat.le_refl _) (fun k hk=>by simp[Value.ownBlock]at hk)
     try rw[Nat.zero_add,List.nil_append]at aQ
     have hP:aX w' B v' ys:=.inl (by rw[show ys.length=k by have:=Xc.out;rwa [List.length_map]at this];exact aQ);obtain⟨a',c',rfl,_,_⟩:=hP.form;have HP:=Ih hP;clear aQ hg hP
     go_wp2_with fail
     go_ret;exact⟨a',_,c',ys,rfl,HE.out.symm,HP.out,hb⟩
   ·have g0:=aR (k:=[102,105,108,101]) jm;have HE:=Ih (HD.out (fun h=>jm h.1));by_cases kq:k=0
    ·have k1:((k:Int)+1==1)=true:=by rw[kq];rfl
     clear HD HK jm hL;go_enter Tryz.func26,Tryz.ntmps26
     go_wp2_with fail
     go_ret;exact HZ.out kq HE.out
    ·clear HD HK jm hL HZ kq;go_enter Tryz.func26,Tryz.ntmps26
     go_wp2_with (at_builtin;refine wpList_append_own _ rfl (.const (.slice none 0 0)) (.tmp 28) 23 rfl B 9 i0 (.string ⟨#[]⟩) 1 16 Tryz.underlying23 hi ig fs fk rfl (by decide) _ 0 [] rfl (World.ownsRow_nil _ B _ _) ⟨G,off,none⟩ k c (ys.map Value.string) rfl (by rw[Nat.mul_one];exact Xc.out) Hnc.out (by simp[Value.oneCell']) (by unfold maxLen;omega) (by omega) hB ?_)
     intro v' w' aQ hg _;have hb:Below w.heap.size w w':=(Below.refl _ w).grown hg (Nat.le_refl _) (fun k hk=>by simp[Value.ownBlock]at hk)
     try rw[Nat.zero_add,List.nil_append]at aQ
     have hP:aX w' B v' ys:=.inl (by rw[show ys.length=k by have:=Xc.out;rwa [List.length_map]at this];exact aQ);obtain⟨a',c',rfl,_,_⟩:=hP.form;have HP:=Ih hP;clear aQ hg hP
     go_wp2_with fail
     go_ret;exact⟨a',_,c',ys,rfl,HE.out.symm,HP.out,hb⟩
end Go.Proofs.YtlcbhacofagedaaGreatDoor
namespace Lz
open Go
def noL:Bs:=[0,9,10,13,32,35,47,58,60,62,63,64,91,93,94,124]
theorem J8:∀c:UInt8,eG.contains c=(noL.contains c||c==92):=au (by decide +kernel)
theorem A2 {l:Bs} {i:Nat} {d c:UInt8} (h:l[i]? =some d):(l.drop i).contains c=(d==c||(l.drop (i+1)).contains c):=by
 have hl:=(List.getElem?_eq_some_iff.1 h).1;have he:=(List.getElem?_eq_some_iff.1 h).2;rw[List.drop_eq_getElem_cons hl,he,List.contains_cons];congr 1;exact Bool.beq_comm
theorem zy:∀c:UInt8,(low1 c=48↔c=48)/\(low1 c=120↔(c=120\/c=88)):=au (by decide +kernel)
theorem Ml:∀c:UInt8,dx (low1 c)=dx c:=au (by decide +kernel)
theorem AZ (b:Nat):∀(t:Bs) (n:Nat),bE b n (low t)=bE b n t
 | [],_=>rfl
 | c::r,n=>by
   have e:low (c::r)=low1 c::low r:=rfl;rw[e];unfold bE;rw[Ml];cases dx c with
   | none=>rfl
   | some d=>
     simp only;split
     ·rfl
     ·exact AZ b r _
theorem YN {c0 c1:UInt8} {r:Bs} (h0:c0=48) (h1:c1=120\/c1=88):fv (c0::c1::r)=bE 16 0 r:=by
 have e:low (c0::c1::r)=48::120::low r:=by
  show low1 c0::low1 c1::low r=_;rw[(zy c0).1.2 h0,(zy c1).2.2 h1]
 unfold fv;rw[e,if_pos (by rfl)];show bE 16 0 (48::low r)=_;rw[show bE 16 0 (48::low r)=bE 16 0 (low r)from rfl,AZ]
theorem Yl {c0 c1:UInt8} {r:Bs} (h0:c0=48) (h1:¬(c1=120\/c1=88)):fv (c0::c1::r)=bE 8 0 (c1::r):=by
 have e:Lib.hasPrefix (low (c0::c1::r)) [48,120]=false:=by
  show Lib.hasPrefix (low1 c0::low1 c1::low r) [48,120]=false;have:low1 c1≠120:=fun h=>h1 ((zy c1).2.1 h)
  simp[Lib.hasPrefix,List.isPrefixOf]
  intro _ h;exact this h.symm
 unfold fv;rw[e,if_neg (by simp),if_pos ⟨by simp,by simp[h0]⟩];rfl
theorem LV {s:Bs} (h:s.length<2\/s[0]? ≠some 48):fv s=if s=[]then none else bE 10 0 s:=by
 have e:Lib.hasPrefix (low s) [48,120]=false:=by
  match s,h with
  | [],_=>rfl
  | [a],_=>
    show Lib.hasPrefix [low1 a] [48,120]=false
    simp[Lib.hasPrefix,List.isPrefixOf]
  | a::b::r,h=>
    show Lib.hasPrefix (low1 a::low1 b::low r) [48,120]=false
    have ha:a≠48:=by
     rcases h with h|h
     ·exfalso;simp only[List.length_cons]at h;omega
     ·simpa using h
    have:low1 a≠48:=fun h=>ha ((zy a).1.1 h)
    simp[Lib.hasPrefix,List.isPrefixOf]
    intro h;exact absurd h.symm this
 unfold fv;rw[e,if_neg (by simp),if_neg (fun hh=>by rcases h with h|h;omega;exact h hh.2)]
end Lz
namespace Go.Proofs.YtlcbhacofagedaaGreatDoor
open Go.RowKit
theorem Ce (c:UInt8) (w:World):Calls Tryz.prog 57 #[.int .u8 (c.toNat:Int)] w fun e w'=>e=.returned (.bool (Lz.eG.contains c))/\w=w':=by
 obtain⟨goal,hg⟩:∃goal,goal=Lz.eG.contains c:=⟨_,rfl⟩;have HG:Hid (goal=(Lz.noL.contains c||c==92)):=Ih (by rw[hg,Lz.J8]);rw[<-hg];clear hg;have e92:((c.toNat:Int)==92)=(c==92):=jx c 92;go_enter Tryz.func57,Tryz.ntmps57
 go_upto_region 1 with fail
 go_cut [3] (fun s wx=>∃t:ByteArray,s=.string t/\t.size=16/\Hid (t.data.toList=Lz.noL)/\w=wx)
 case first=>
  go_wp2_with fail
  go_meet;exact⟨_,rfl,rfl,Ih rfl,rfl⟩
 case rest=>
 obtain⟨t,rfl,ht,HT,rfl⟩:=hcut
 go_wp2_with fail
 go_loopw [4] (fun j wr=>∃(i:Nat),j=.int .i64 i/\i<=16/\Hid (goal=((Lz.noL.drop i).contains c||c==92))/\w=wr) (fun j _=>16-(intOf j).toNat)
 case atStart=>exact⟨0,rfl,Nat.zero_le _,HG,rfl⟩
 case round=>
  obtain⟨i,rfl,hi,HR,rfl⟩:=hrel;by_cases aN:i<t.size
  ·have dH:(i:Int)<(t.size:Int):=by omega
   have nP:(0:Int)<=(i:Int):=by omega
   obtain⟨d,hd⟩:∃d,d=t[i]:=⟨_,rfl⟩;have Xl:(t[i].toNat:Int)=(d.toNat:Int):=by rw[hd]
   have wR:Lz.noL[i]? =some d:=by rw[<-HT.out,aw aN,hd]
   have hq:=jx d c;obtain⟨q,Wc⟩:∃q,q=(d==c):=⟨_,rfl⟩;rw[<-Wc]at hq;have hst:=Lz.A2 (c:=c) wR;rw[<-Wc]at hst;cases q with
   | true=>
     have HN:Hid (goal=true):=Ih (by rw[HR.out,hst];simp);clear hd wR Wc hst HR HG
     go_wp2_with fail
     go_ret;exact⟨by rw[HN.out];rfl,rfl⟩
   | false=>
     have HN:Hid (goal=((Lz.noL.drop (i+1)).contains c||c==92)):=Ih (by rw[HR.out,hst];simp);clear hd wR Wc hst HR HG
     go_wp2_with fail
     go_roundw
     case rel=>exact⟨i+1,by go_num,by omega,HN,by first |rfl|trivial⟩
     case measure=>simp[intOf];omega
  ·have dH:¬(i:Int)<(t.size:Int):=by omega
   have HN:Hid (goal=(c==92)):=Ih (by rw[HR.out,List.drop_eq_nil_of_le (by simp[Lz.noL];omega)];rfl);clear HR HG
   go_wp2_with fail
   go_ret;exact⟨by rw[HN.out];rfl,rfl⟩
theorem Ma {s:ByteArray} (h:2<=s.size):s.data.toList=s[0]::s[1]::s.data.toList.drop 2:=by
 have h0:0<s.data.toList.length:=by rw[aa];omega
 have h1:1<s.data.toList.length:=by rw[aa];omega
 have e0:=List.drop_eq_getElem_cons (l:=s.data.toList) (i:=0) h0;have e1:=List.drop_eq_getElem_cons (l:=s.data.toList) (i:=1) h1;rw[List.drop_zero]at e0
 conv=>lhs;rw[e0,e1]
 rfl
theorem xn (s:ByteArray) (hs:s.size<=1048576) (w:World) (h:Hid (Lz.fv s.data.toList=if s.data.toList=[]then none else Lz.bE 10 0 s.data.toList)) (hw:s.size<2\/∃h:2<=s.size,((s[0].toNat:Int)==48)=false):
  Calls Tryz.prog 93 #[.string s] w (QD (Lz.fv s.data.toList) w):=by
 have cD:=fI s 10 (by omega) hs w;obtain⟨o,ho⟩:∃o,o=Lz.bE 10 0 s.data.toList:=⟨_,rfl⟩;rw[<-ho]at cD;obtain⟨p,hp⟩:∃p,p=Lz.fv s.data.toList:=⟨_,rfl⟩;obtain⟨e,he⟩:∃e,s.toList.isEmpty=e:=⟨_,rfl⟩
 have HR:Hid (QD p w (.returned (.tuple #[.int .i64 ((o.getD 0:Nat):Int),.bool (o.isSome&& !e)])) w):=by
  refine⟨?_,rfl⟩;rw[hp,h.out,<-he,GP];by_cases hz:s.data.toList=[]
  ·rw[if_pos hz,decide_eq_true hz];rw[ho,hz];rfl
  ·rw[if_neg hz,decide_eq_false hz,<-ho];simp
 rw[<-hp];have CD:=Ih cD;obtain⟨n,hn⟩:∃n,n=o.getD 0:=⟨_,rfl⟩;obtain⟨k,hk⟩:∃k,k=o.isSome:=⟨_,rfl⟩
 have hCD:Hid (Calls Tryz.prog 92 #[.string s,.int .i64 10] w fun e w'=>e=.returned (.tuple #[.int .i64 (n:Int),.bool k])/\w=w'):=by
  show Calls _ _ _ _ _;rw[hn,hk];exact CD.out
 rw[<-hn,<-hk]at HR;clear cD CD h hp ho hn hk;rcases hw with hz|⟨hz,hq⟩
 ·have Ik:¬(2:Int)<=(s.size:Int):=by omega
  have aci:(s.size:Int)<2:=by omega
  go_enter Tryz.func93,Tryz.ntmps93
  go_wp2_with fail
  refine hCD.out.mono ?_;rintro _ w1 ⟨rfl,rfl⟩;cases k<;>(go_wp2_with fail)<;>go_ret2<;>exact HR.out
 ·have Ik:(2:Int)<=(s.size:Int):=by omega
  have ig:(0:Int)<(s.size:Int):=by omega
  go_enter Tryz.func93,Tryz.ntmps93
  go_wp2_with fail
  refine hCD.out.mono ?_;rintro _ w1 ⟨rfl,rfl⟩;cases k<;>(go_wp2_with fail)<;>go_ret2<;>exact HR.out
theorem qh (s:ByteArray) (hs:s.size<=1048576) (w:World):Calls Tryz.prog 93 #[.string s] w (QD (Lz.fv s.data.toList) w):=by
 by_cases hz:s.size<2
 ·exact xn s hs w (Ih (Lz.LV (.inl (by rw[aa];exact hz)))) (.inl hz)
 ·have h2:2<=s.size:=by omega
  have hd:=Ma h2;have ek:((s[0].toNat:Int)==48)=(s[0]==48):=jx s[0] 48;by_cases AH:s[0]=48
  ·have Ps:((s[0].toNat:Int)==48)=true:=by rw[ek,AH];rfl
   have Ik:(2:Int)<=(s.size:Int):=by omega
   have ig:(0:Int)<(s.size:Int):=by omega
   have fs:(1:Int)<(s.size:Int):=by omega
   have acJ:(1:Int)<=(s.size:Int):=by omega
   have aC:((s[1].toNat:Int)==120)=(s[1]==120):=jx s[1] 120;have aU:((s[1].toNat:Int)==88)=(s[1]==88):=jx s[1] 88;by_cases hx:s[1]=120\/s[1]=88
   ·have HP:Hid (Lz.fv s.data.toList=Lz.bE 16 0 (s.extract 2 s.size).data.toList):=Ih (by
     rw[aP,hd,Lz.YN AH hx];rfl)
    have VZ:=fI (s.extract 2 s.size) 16 (by omega) (Nat.le_trans (aJ _ _ _) hs) w;have oX:s[1]≠120->s[1]=88:=fun h=>hx.resolve_left h;rw[HP.out];generalize Lz.bE 16 0 (s.extract 2 s.size).data.toList=o at VZ⊢;have cD:=Ih VZ;clear VZ;by_cases OY:s[1]=120
    ·have q1:((s[1].toNat:Int)==120)=true:=by rw[aC,OY];rfl
     clear hd ek aC aU AH hx OY oX;go_enter Tryz.func93,Tryz.ntmps93
     go_wp2_with fail
     refine cD.out.mono ?_;rintro _ w1 ⟨rfl,rfl⟩
     go_wp2_with fail
     go_ret2
     exact⟨rfl,rfl⟩
    ·have q1:((s[1].toNat:Int)==120)=false:=by rw[aC];exact beq_eq_false_iff_ne.2 OY
     have q2:((s[1].toNat:Int)==88)=true:=by rw[aU,oX OY];rfl
     clear hd ek aC aU AH hx OY oX;go_enter Tryz.func93,Tryz.ntmps93
     go_wp2_with fail
     refine cD.out.mono ?_;rintro _ w1 ⟨rfl,rfl⟩
     go_wp2_with fail
     go_ret2
     exact⟨rfl,rfl⟩
   ·have HP:Hid (Lz.fv s.data.toList=Lz.bE 8 0 (s.extract 1 s.size).data.toList):=Ih (by
     rw[aP,hd,Lz.Yl AH hx];rfl)
    have VZ:=fI (s.extract 1 s.size) 8 (by omega) (Nat.le_trans (aJ _ _ _) hs) w;have q1:((s[1].toNat:Int)==120)=false:=by rw[aC];exact beq_eq_false_iff_ne.2 (fun h=>hx (.inl h))
    have q2:((s[1].toNat:Int)==88)=false:=by rw[aU];exact beq_eq_false_iff_ne.2 (fun h=>hx (.inr h))
    rw[HP.out];generalize Lz.bE 8 0 (s.extract 1 s.size).data.toList=o at VZ⊢;have cD:=Ih VZ;clear hd ek aC aU AH hx VZ;go_enter Tryz.func93,Tryz.ntmps93
    go_wp2_with fail
    refine cD.out.mono ?_;rintro _ w1 ⟨rfl,rfl⟩
    go_wp2_with fail
    go_ret2
    exact⟨rfl,rfl⟩
  ·refine xn s hs w (Ih (Lz.LV (.inr ?_))) (.inr ⟨h2,?_⟩)
   ·rw[hd];simpa using AH
   ·rw[ek];exact beq_eq_false_iff_ne.2 AH
end Go.Proofs.YtlcbhacofagedaaGreatDoor
namespace Lz
open Go
theorem Mf:∀c:UInt8,aA c=(match dx c with|some d=>decide (d<10)|none=>false):=au (by decide +kernel)
theorem A8:∀(x:Bs) (n:Nat),(bE 10 n x).isSome=x.all aA
 | [],_=>rfl
 | c::r,n=>by
   rw[List.all_cons,Mf c];unfold bE;cases dx c with
   | none=>rfl
   | some d=>
     simp only;by_cases h:d<10
     ·rw[if_neg (by omega),A8 r,decide_eq_true h,Bool.true_and]
     ·rw[if_pos (by omega),decide_eq_false h,Bool.false_and];rfl
end Lz
namespace Go.Proofs.YtlcbhacofagedaaGreatDoor
open Go.RowKit
theorem pJ (s:ByteArray) (hs:s.size<=1000000) (w:World):Calls Tryz.prog 61 #[.string s] w (Ta (Lz.br s.data.toList) s.size w):=by
 have cS:=Ih (nA s 46 (by omega) w);go_enter Tryz.func61,Tryz.ntmps61
 go_wp2_with fail
 refine(cS.out).mono ?_;rintro e w1 ⟨v1,xs,rfl,d7,gS,aC⟩;have d5:Hid (Lz.ag 46 s.data.toList=xs.map (·.data.toList)):=Ih d7.out.symm
 have bv:xs.length<=s.size+1:=by
  have h:=Lz.dz 46 s.data.toList;rw[<-d7.out,List.length_map,aa]at h;omega
 have ei:1<=xs.length:=by
  have:=Lz.kx 46 s.data.toList;rw[<-d7.out]at this;cases xs with
  | nil=>simp at this
  | cons _ _=>simp
 have dV:∀x,x∈xs->x.size<=s.size:=fun x hx=>dL d7.out hx;obtain⟨b1,O8,rfl,Iz,hT⟩:=jj gS ei;obtain⟨x,hx⟩:∃x,xs[xs.length-1]? =some x:=⟨_,List.getElem?_eq_getElem (by omega)⟩;have oY:=hT.cells _ _ hx;have fu:xs.getLast? =some x:=by rw[List.getLast?_eq_getElem?];exact hx
 have HT:=Ih hT;have yD:=Ih dV;have Hl:=Ih fu;clear cS gS d7 hT dV hx fu;obtain⟨n,hn⟩:∃n,n=xs.length-1:=⟨_,rfl⟩;rw[<-hn]at oY;have oX:(xs.length:Int)-1=n:=by omega
 have Y2:n<xs.length:=by omega
 have sR:(n:Int)<xs.length:=by omega
 have hn3:(n:Int)<=xs.length:=by omega
 have sX:(0:Int)<=n:=by omega
 have Hn:=Ih hn;clear hn;by_cases h1:1<xs.length
 ·have hn4:(0:Int)<n:=by omega
  by_cases hz:x.size=0
  ·have he:=ak hz
   have HD:Hid ((xs.take n).map (·.data.toList)=Lz.br s.data.toList):=by
    show _=_;unfold Lz.br
    rw[d5.out,if_pos ⟨by simpa using h1,by
     rw[List.getLast?_map,Hl.out];show some x.data.toList=some [];rw[List.length_eq_zero_iff.1 (show x.data.toList.length=0 by rw[aa];exact hz)]⟩]
    rw[List.dropLast_eq_take,List.length_map,List.map_take,Hn.out]
   clear d5
   go_wp2
   go_ret;refine⟨xs.take n,b1,O8,?_,by simp;omega,by simp;omega,by simp;omega,HD,fun y hy=>yD.out y (List.mem_of_mem_take hy),HT.out.take n,aC⟩;rw[List.length_take,Nat.min_eq_left (by omega)];rfl
  ·have he:=aj (s:=x) (by omega)
   have HD:Hid (xs.map (·.data.toList)=Lz.br s.data.toList):=by
    show _=_;unfold Lz.br;rw[d5.out,if_neg];rintro⟨_,h⟩;rw[List.getLast?_map,Hl.out]at h;have:x.data.toList=[]:=Option.some.inj h;exact hz (by rw[<-aa,this];rfl)
   clear d5
   go_wp2
   go_ret;exact⟨xs,b1,O8,rfl,Iz,ei,bv,HD,yD.out,HT.out,aC⟩
 ·have hn4:¬(0:Int)<n:=by omega
  have HD:Hid (xs.map (·.data.toList)=Lz.br s.data.toList):=by
   show _=_;unfold Lz.br;rw[d5.out,if_neg];rintro⟨h,_⟩;exact h1 (by simpa using h)
  clear d5
  go_wp2
  go_ret;exact⟨xs,b1,O8,rfl,Iz,ei,bv,HD,yD.out,HT.out,aC⟩
theorem Bx {s:List UInt8} {xs:List ByteArray} {x:ByteArray} (h:xs.map (·.data.toList)=Lz.br s) (hx:xs[xs.length-1]? =some x):
  Lz.bh s=((Lz.bE 10 0 x.data.toList).isSome&& !x.toList.isEmpty||(Lz.fv x.data.toList).isSome):=by
 unfold Lz.bh;rw[qg h hx,Lz.A8,GP];congr 1;unfold Lz.dj;cases x.data.toList with
 | nil=>rfl
 | cons a r=>simp
theorem Fj (s:ByteArray) (hs:s.size<=1000000) (w:World):Calls Tryz.prog 59 #[.string s] w (cn (Lz.bh s.data.toList) w):=by
 have cL:=Ih (pJ s hs w);go_enter Tryz.func59,Tryz.ntmps59
 go_wp2_with fail
 refine(cL.out).mono ?_;rintro e w1 ⟨xs,b,cap,rfl,nk,ei,bv,Aq,dV,hT,aC⟩;obtain⟨x,hx⟩:∃x,xs[xs.length-1]? =some x:=⟨_,List.getElem?_eq_getElem (by omega)⟩;have oY:=hT.cells _ _ hx;have o7:=dV x (List.mem_of_getElem? hx);have hN:=Bx Aq.out hx;obtain⟨n,hn⟩:∃n,n=xs.length-1:=⟨_,rfl⟩;rw[<-hn]at oY;have oX:(xs.length:Int)-1=n:=by omega
 have sR:(n:Int)<xs.length:=by omega
 have sX:(0:Int)<=n:=by omega
 have cD:=fI x 10 (by omega) (by omega) w1;have cN:=qh x (by omega) w1;generalize Lz.bE 10 0 x.data.toList=o1 at cD hN;generalize Lz.fv x.data.toList=o2 at cN hN;obtain⟨e1,Wm⟩:∃e,x.toList.isEmpty=e:=⟨_,rfl⟩;rw[Wm]at hN;have HN:=Ih hN;have CD:=Ih cD;have CN:=Ih cN;clear hN cD cN hn hx Aq dV hT cL
 go_wp2_with fail
 refine CD.out.mono ?_;rintro _ w2 ⟨rfl,rfl⟩
 go_wp2_with fail
 refine CN.out.mono ?_;rintro _ w2 ⟨rfl,rfl⟩;cases o1<;>cases e1<;>cases o2<;>(go_wp2_with fail)<;>go_ret<;>exact⟨by rw[HN.out];rfl,aC⟩
end Go.Proofs.YtlcbhacofagedaaGreatDoor
namespace Lz
open Go
theorem JT (n all:Nat) (s:Bs) (r:List Bs):m9 n all (s::r)=match fv s with
  | none=>none
  | some v=>if(if r=[]then 256^(5-n)else 256)<=v then none else m9 n (all*(if r=[]then 256^(5-n)else 256)+v) r:=by
 rw[m9];cases fv s<;>rfl
def uJ (all:Nat):Nat->Bs
 | 0=>[]
 | m+1=>uJ all m++Lib.decDigits (all / 2^(8*(3-m))%256)++(if m<3 then[46]else[])
theorem Jw (v:Nat):uJ v 4=cu [v / 2^24%256,v / 2^16%256,v / 2^8%256,v / 2^0%256]:=by
 simp[uJ,cu,dv]
end Lz
namespace Go.Proofs.YtlcbhacofagedaaGreatDoor
open Go.RowKit
theorem zT {u:ByteArray} {l:List UInt8} (h:u.data.toList=l):u.size=l.length:=by rw[<-aa,h]
theorem MB (d:Nat):Lib.itoa (d:Int)=Lib.decDigits d:=by
 unfold Lib.itoa;rw[if_neg (by omega),Int.toNat_natCast]
def Vb (o:Option (List UInt8)) (w:World) (e:Ending) (w':World):Prop:=
 Below w.heap.size w w'/\match o with
  | some t=>∃u:ByteArray,e=.returned (.tuple #[.string u,.int .i64 0])/\Hid (u.data.toList=t)
  | none=>e=.returned (.tuple #[.string ⟨#[]⟩,.int .i64 71])
theorem D2 (b cap:Nat) (xs:List ByteArray) (w:World) (hE:de w) (hT:fq w b xs) (ei:1<=xs.length) (hL:xs.length<=2000000) (dV:∀x,x∈xs->x.size<=1000000):
  Calls Tryz.prog 60 #[.slice (some ⟨b,0,none⟩) xs.length cap] w (Vb (Lz.dJ (xs.map (·.data.toList))) w):=by
 have ek:=Below.refl w.heap.size w;by_cases h4:4<xs.length
 ·have h4I:(4:Int)<(xs.length:Int):=by omega
  have HR:Hid (Lz.dJ (xs.map (·.data.toList))=none):=Ih (by unfold Lz.dJ;rw[if_pos (by simpa using h4)]);rw[HR.out];clear h4;go_enter Tryz.func60,Tryz.ntmps60
  go_wp2_with fail
  go_ret2
  exact⟨ek,by show _=_;rfl⟩
 ·have h4I:¬(4:Int)<(xs.length:Int):=by omega
  obtain⟨goal,hg⟩:∃goal,goal=Lz.m9 xs.length 0 (xs.map (·.data.toList)):=⟨_,rfl⟩;have HG:=Ih hg
  have HF:Hid (Lz.dJ (xs.map (·.data.toList))=goal.map fun v=>Lz.cu [v / 2^24%256,v / 2^16%256,v / 2^8%256,v / 2^0%256]):=Ih (by
   rw[hg,Lz.Km _ (by intro h;rw[List.map_eq_nil_iff]at h;rw[h]at ei;simp at ei) (by simp;omega),List.length_map])
  rw[HF.out];clear hg HF;have HT:=Ih hT;have yD:=Ih dV;clear hT dV;obtain⟨n,hn⟩:∃n,n=xs.length:=⟨_,rfl⟩;rw[<-hn]at ei hL h4 h4I HG;rw[<-hn];have Hn:=Ih hn;clear hn;go_enter Tryz.func60,Tryz.ntmps60
  go_wp2_with fail
  go_loopw [4,5] (fun a j wr=>∃(all i:Nat),a=.int .i64 all/\j=.int .i64 i/\i<=n/\(i<n->all<256^i)/\all<4294967296/\Hid (goal=Lz.m9 n all ((xs.drop i).map (·.data.toList)))/\w=wr) (fun _ j _=>n-(intOf j).toNat)
  case atStart=>exact⟨0,0,rfl,rfl,Nat.zero_le _,fun _=>by simp,by omega,Ih (by rw[HG.out];rfl),rfl⟩
  case round=>
   obtain⟨all,i,rfl,rfl,hi,ey,ab9,HR,rfl⟩:=hrel;by_cases aN:i<n
   ·have dH:(i:Int)<(n:Int):=by omega
    have nP:(0:Int)<=(i:Int):=by omega
    obtain⟨x,hx⟩:∃x,xs[i]? =some x:=⟨_,List.getElem?_eq_getElem (by rw[<-Hn.out];exact aN)⟩;have oY:=HT.out.cells _ _ hx;have o7:=yD.out x (List.mem_of_getElem? hx);have cN:=qh x (by omega) w
    have hst:Lz.m9 n all ((xs.drop i).map (·.data.toList))=match Lz.fv x.data.toList with
      | none=>none
      | some v=>if(if i+1=n then 256^(5-n)else 256)<=v then none else Lz.m9 n (all*(if i+1=n then 256^(5-n)else 256)+v) ((xs.drop (i+1)).map (·.data.toList)):=by
     have hl:i<xs.length:=by rw[<-Hn.out];exact aN
     have Px:xs[i]=x:=by have:=List.getElem?_eq_getElem hl;rw[hx]at this;exact(Option.some.inj this).symm
     rw[List.drop_eq_getElem_cons hl,List.map_cons,Lz.JT,Px]
     have abU:((xs.drop (i+1)).map (·.data.toList)=[])↔i+1=n:=by
      rw[List.map_eq_nil_iff,List.drop_eq_nil_iff,<-Hn.out];omega
     simp only[abU]
    generalize Lz.fv x.data.toList=o at cN hst;have fQ:=Ih hst;have CN:=Ih cN;obtain⟨m,hm⟩:∃m,m=(if i+1=n then 256^(5-n)else 256):=⟨_,rfl⟩;rw[<-hm]at fQ;have Hm:=Ih hm
    have hmv:m<=4294967296:=by
     rw[hm];split
     ·exact Nat.le_trans (Nat.pow_le_pow_right (by omega) (show 5-n<=4 by omega)) (by decide)
     ·omega
    have nr:∀v,v<m->(i+1<n->all*m+v<256^(i+1))/\all*m+v<4294967296:=by
     intro v hv;have h1:all*m+v<(all+1)*m:=by rw[Nat.add_mul];omega
     have ha:=ey aN;have h2:(all+1)*m<=256^i*m:=Nat.mul_le_mul_right _ ha;by_cases hl:i+1=n
     ·have e:256^i*m=4294967296:=by
       rw[hm,if_pos hl,<-Nat.pow_add,show i+(5-n)=4 by omega]
      exact⟨fun h=>by omega,by omega⟩
     ·have e:256^i*m=256^(i+1):=by rw[hm,if_neg hl,Nat.pow_succ]
      have e2:256^(i+1)<=256^3:=Nat.pow_le_pow_right (by omega) (by omega);exact⟨fun h=>by omega,by omega⟩
    have Iq:=Ih nr;clear hst cN hx hm nr ey
    go_wp2_with fail
    refine CN.out.mono ?_;rintro _ w1 ⟨rfl,rfl⟩;obtain⟨nv,hnv⟩:∃nv,nv=o.getD 0:=⟨_,rfl⟩;obtain⟨ok,l6⟩:∃ok,ok=o.isSome:=⟨_,rfl⟩;rw[<-hnv,<-l6];have HO:=Ih (And.intro hnv l6);clear hnv l6
    go_wp2_with fail
    go_loopw [8,9] (fun a k wr=>∃(M j:Nat),a=.int .i64 M/\k=.int .i64 j/\M<=4294967296/\Hid (M=256^(j+1))/\j<=3/\(0<j->i+1=n/\j+n<=4)/\w=wr) (fun _ k _=>4-(intOf k).toNat)
    case atStart=>exact⟨256,0,rfl,rfl,by omega,Ih rfl,by omega,fun h=>absurd h (by omega),rfl⟩
    case round=>
     obtain⟨M,j,rfl,rfl,hM,HM,hj,sC,rfl⟩:=hrel;obtain⟨n1,oX⟩:∃n1,n=n1+1:=⟨n-1,by omega⟩;have Zc:(n:Int)-1=(n1:Int):=by omega
     obtain⟨r4,AD⟩:∃r4,r4+n=4:=⟨4-n,by omega⟩;have aca:(4:Int)-(n:Int)=(r4:Int):=by omega
     by_cases hl:i+1=n
     ·have q1:((i:Int)==(n1:Int))=true:=by rw[beq_iff_eq];omega
      by_cases hjr:j<r4
      ·have hjI:(j:Int)<(r4:Int):=by omega
       have hM2:M*256<=4294967296:=by
        rw[HM.out,<-Nat.pow_succ];exact Nat.le_trans (Nat.pow_le_pow_right (by omega) (show j+1+1<=4 by omega)) (by decide)
       have HM2:Hid (M*256=256^(j+1+1)):=Ih (by rw[HM.out,<-Nat.pow_succ]);clear HM
       go_wp2_with fail
       go_roundw
       case rel=>exact⟨M*256,j+1,by go_num,by go_num,hM2,HM2,by omega,fun _=>⟨hl,by omega⟩,by first |rfl|trivial⟩
       case measure=>simp[intOf];omega
      ·have hjI:¬(j:Int)<(r4:Int):=by omega
       have KW:Hid (M=m):=Ih (by
        rw[HM.out,Hm.out,if_pos hl];congr 1;by_cases h0:0<j
        ·have:=(sC h0).2;omega
        ·omega)
       clear oX AD hl;cases ok with
       | false=>
         have HN:Hid (goal=none):=Ih (by
          have ho:o=none:=by have:=HO.out.2;cases o with
           | none=>rfl
           | some v=>cases this
          rw[HR.out,fQ.out,ho])
         clear HR fQ HO Hm HM
         go_wp2_with fail
         go_ret2
         rw[HN.out];exact⟨ek,by show _=_;rfl⟩
       | true=>
         have HS:Hid (o=some nv):=Ih (by
          obtain⟨k1,k2⟩:=HO.out;cases o with
          | none=>cases k2
          | some v=>rw[k1];rfl)
         by_cases o6:M<=nv
         ·have VD:(M:Int)<=(nv:Int):=by omega
          have HN:Hid (goal=none):=Ih (by rw[HR.out,fQ.out,HS.out];simp only;rw[if_pos (by rw[<-KW.out];exact o6)]);clear HR fQ HO Hm HM HS o6
          go_wp2_with fail
          go_ret2
          rw[HN.out];exact⟨ek,by show _=_;rfl⟩
         ·have VD:¬(M:Int)<=(nv:Int):=by omega
          have HN:Hid (goal=Lz.m9 n (all*M+nv) ((xs.drop (i+1)).map (·.data.toList))):=Ih (by
           rw[HR.out,fQ.out,HS.out];simp only;rw[if_neg (by rw[<-KW.out];exact o6),KW.out])
          obtain⟨k1,k2⟩:=Iq.out nv (by rw[<-KW.out];omega);rw[<-KW.out]at k1 k2;obtain⟨am,VQ⟩:∃am,am=all*M:=⟨_,rfl⟩;have aba:(all:Int)*(M:Int)=(am:Int):=by rw[VQ];push_cast;rfl
          rw[<-VQ]at k1 k2 HN;have K1:=Ih k1;clear HR fQ HO Hm HM HS o6 VQ k1 Iq KW
          go_wp2_with fail
          go_roundw
          case rel=>exact⟨am+nv,i+1,by go_num,by go_num,by omega,K1.out,k2,HN,by first |rfl|trivial⟩
          case measure=>simp[intOf];omega
     ·have q1:((i:Int)==(n1:Int))=false:=by rw[beq_eq_false_iff_ne];omega
      have KW:Hid (M=m):=Ih (by
       have:j=0:=by
        by_cases h0:0<j
        ·exact absurd (sC h0).1 hl
        ·omega
       rw[HM.out,Hm.out,if_neg hl,this])
      clear oX AD hl;cases ok with
      | false=>
        have HN:Hid (goal=none):=Ih (by
         have ho:o=none:=by have:=HO.out.2;cases o with
          | none=>rfl
          | some v=>cases this
         rw[HR.out,fQ.out,ho])
        clear HR fQ HO Hm HM
        go_wp2_with fail
        go_ret2
        rw[HN.out];exact⟨ek,by show _=_;rfl⟩
      | true=>
        have HS:Hid (o=some nv):=Ih (by
         obtain⟨k1,k2⟩:=HO.out;cases o with
         | none=>cases k2
         | some v=>rw[k1];rfl)
        by_cases o6:M<=nv
        ·have VD:(M:Int)<=(nv:Int):=by omega
         have HN:Hid (goal=none):=Ih (by rw[HR.out,fQ.out,HS.out];simp only;rw[if_pos (by rw[<-KW.out];exact o6)]);clear HR fQ HO Hm HM HS o6
         go_wp2_with fail
         go_ret2
         rw[HN.out];exact⟨ek,by show _=_;rfl⟩
        ·have VD:¬(M:Int)<=(nv:Int):=by omega
         have HN:Hid (goal=Lz.m9 n (all*M+nv) ((xs.drop (i+1)).map (·.data.toList))):=Ih (by
          rw[HR.out,fQ.out,HS.out];simp only;rw[if_neg (by rw[<-KW.out];exact o6),KW.out])
         obtain⟨k1,k2⟩:=Iq.out nv (by rw[<-KW.out];omega);rw[<-KW.out]at k1 k2;obtain⟨am,VQ⟩:∃am,am=all*M:=⟨_,rfl⟩;have aba:(all:Int)*(M:Int)=(am:Int):=by rw[VQ];push_cast;rfl
         rw[<-VQ]at k1 k2 HN;have K1:=Ih k1;clear HR fQ HO Hm HM HS o6 VQ k1 Iq KW
         go_wp2_with fail
         go_roundw
         case rel=>exact⟨am+nv,i+1,by go_num,by go_num,by omega,K1.out,k2,HN,by first |rfl|trivial⟩
         case measure=>simp[intOf];omega
   ·have dH:¬(i:Int)<(n:Int):=by omega
    have HN:Hid (goal=some all):=Ih (by rw[HR.out,List.drop_eq_nil_of_le (by rw[<-Hn.out];omega)];rfl);clear HR ey yD HT HG
    go_wp2_with fail
    go_loopw [10,11] (fun o k wr=>∃(t:ByteArray) (j:Nat),o=.string t/\k=.int .i64 ((j:Int)-1)/\j<=4/\t.size+4*j<=16/\Hid (t.data.toList=Lz.uJ all (4-j))/\Below w.heap.size w wr) (fun _ k _=>(intOf k+1).toNat)
    case atStart=>exact⟨⟨#[]⟩,4,rfl,rfl,by omega,by show 0+4*4<=16;omega,Ih rfl,ek⟩
    case round=>
     obtain⟨t,j,rfl,rfl,hj,AG,hT,bi⟩:=hrel;cases j with
     | zero=>
       have h0:¬(0:Int)<=((0:Nat):Int)-1:=by omega
       go_wp2_with fail
       go_ret2
       rw[HN.out];exact⟨bi,_,rfl,Ih (by rw[hT.out];simpa using Lz.Jw all)⟩
     | succ k=>
       have Xh:k<=3:=by omega
       have kq:((k+1:Nat):Int)-1=(k:Int):=by omega
       have iN:(0:Int)<=(k:Int):=by omega
       obtain⟨d,hd⟩:∃d,d=all / 2^(8*k)%256:=⟨_,rfl⟩;have It:d<256:=by rw[hd];exact Nat.mod_lt _ (by omega)
       have Hd:=Ih hd;have cI:=Ih (lp (d:Int) (by omega) (by omega) wr (hE.below bi))
       have hdm:(((all:Nat):Int) / 2^(8*k)).tmod 256=(d:Int):=by
        rw[hd,Int.tmod_eq_emod_of_nonneg (Int.ediv_nonneg (by omega) (Int.le_of_lt (Int.pow_pos (by omega))))];push_cast;rfl
       have HP:Hid (Lz.uJ all (4-k)=Lz.uJ all (4-(k+1))++Lib.decDigits d++(if 0<k then[46]else[])):=Ih (by
        rw[show 4-k=(4-(k+1))+1 by omega,Lz.uJ,show 3-(4-(k+1))=k by omega,<-hd];by_cases h0:0<k
        ·rw[if_pos h0,if_pos (by omega)]
        ·rw[if_neg h0,if_neg (by omega)])
       have Ou:=gM 2 d (by omega);clear hd
       go_wp2_with fail
       refine cI.out.mono ?_;rintro _ w2 ⟨u,rfl,hu,aU⟩;have nK:u.data.toList=Lib.decDigits d:=by rw[hu.out];exact MB d
       have Sb:u.size<=3:=by rw[zT nK];exact Ou
       have HU:=Ih nK;have cq:=ac bi aU;have n1:¬(9223372036854775807<t.size+u.size):=by omega
       have n2:¬(9223372036854775807<t.size+u.size+1):=by omega
       have acM:(k:Int)+1-1=(k:Int):=by omega
       clear hu nK;by_cases hz:0<k
       ·have Ik:(0:Int)<(k:Int):=by omega
        have HP2:Hid (Lz.uJ all (4-k)=Lz.uJ all (4-(k+1))++Lib.decDigits d++[46]):=Ih (by rw[HP.out,if_pos hz]);clear HP hz
        go_wp2_with fail
        go_roundw
        case rel=>exact⟨t++u++⟨#[46]⟩,k,rfl,by go_num,by omega,by rw[ByteArray.size_append,ByteArray.size_append];show t.size+u.size+1+4*k<=16;omega,Ih (by rw[ai,ai,hT.out,HU.out,HP2.out]),cq⟩
        case measure=>simp[intOf]
       ·have Ik:¬(0:Int)<(k:Int):=by omega
        have HP2:Hid (Lz.uJ all (4-k)=Lz.uJ all (4-(k+1))++Lib.decDigits d):=Ih (by rw[HP.out,if_neg hz,List.append_nil]);clear HP hz
        go_wp2_with fail
        go_roundw
        case rel=>exact⟨t++u,k,rfl,by go_num,by omega,by rw[ByteArray.size_append];omega,Ih (by rw[ai,hT.out,HU.out,HP2.out]),cq⟩
        case measure=>simp[intOf]
end Go.Proofs.YtlcbhacofagedaaGreatDoor
namespace Lz
open Go
theorem Vf:∀c:UInt8,jM c=(eG.contains c||decide (c.toNat<32)||decide (126<c.toNat)||c==37):=au (by decide +kernel)
theorem AW {s:Bs} (h:s[0]? =some 91) (b:Bool):aD s b=ofO 72 (qY s):=by
 unfold aD qY;rw[if_pos h,zq];split
 ·rfl
 ·rfl
theorem NH (p:UInt8->Bool) {l:Bs} {i:Nat} {c:UInt8} (h:l[i]? =some c):(l.drop i).any p=(p c||(l.drop (i+1)).any p):=by
 have hl:=(List.getElem?_eq_some_iff.1 h).1;have he:=(List.getElem?_eq_some_iff.1 h).2;rw[List.drop_eq_getElem_cons hl,he,List.any_cons]
end Lz
namespace Go.Proofs.YtlcbhacofagedaaGreatDoor
open Go.RowKit
theorem CL {s:ByteArray} (h:s.data.toList[0]? ≠some 91) (h0:0<s.size):((s[0].toNat:Int)==91)=false:=by
 have:=jx s[0] 91;rw[show((91:UInt8).toNat:Int)=91 from rfl]at this;rw[this,beq_eq_false_iff_ne];intro e;exact h (by rw[aw h0,e])
theorem we (s:ByteArray) (hs:s.size<=90000) (h0:s.data.toList[0]? ≠some 91) (w:World):Calls Tryz.prog 28 #[.string s,.bool false] w (pg (Lz.aD s.data.toList false) w):=by
 have cE:=Ih (fun W=>eS s 0 (by omega) (by omega) W);obtain⟨q,hq⟩:∃q,q=s.data.toList.any Lz.eG.contains:=⟨_,rfl⟩;obtain⟨r,hr⟩:∃r,r=Lz.aD s.data.toList false:=⟨_,rfl⟩
 have HF:Hid (r=if q then .er 70 else .ok (Lz.ah [] s.data.toList)):=Ih (by
  rw[hr];unfold Lz.aD;rw[if_neg h0,if_neg (by simp),hq])
 rw[<-hr];have HQ:=Ih hq;have ek:=Below.refl w.heap.size w;have VB:=fun h=>CL h0 h;have lM:=Ih VB;clear hq h0 VB hr;go_enter Tryz.func28,Tryz.ntmps28
 go_upto_region 1 with fail
 go_cut [18] (fun s wx=>s=.bool false/\w=wx)
 case first=>
  by_cases hz:0<s.size
  ·have Ik:(0:Int)<(s.size:Int):=by omega
   have hb:=lM.out hz
   go_wp2_with fail
   go_meet;exact⟨rfl,rfl⟩
  ·have Ik:¬(0:Int)<(s.size:Int):=by omega
   go_wp2_with fail
   go_meet;exact⟨rfl,rfl⟩
 case rest=>
 obtain⟨rfl,rfl⟩:=hcut
 go_wp2_with fail
 go_loopw [8] (fun j wr=>∃i:Nat,j=.int .i64 i/\i<=s.size/\Hid (q=(s.data.toList.drop i).any Lz.eG.contains)/\w=wr) (fun j _=>s.size-(intOf j).toNat)
 case atStart=>exact⟨0,rfl,Nat.zero_le _,HQ,rfl⟩
 case round=>
  obtain⟨i,rfl,hi,HR,rfl⟩:=hrel;by_cases aN:i<s.size
  ·have dH:(i:Int)<(s.size:Int):=by omega
   have nP:(0:Int)<=(i:Int):=by omega
   obtain⟨c,hc⟩:∃c,c=s[i]:=⟨_,rfl⟩;have yI:(s[i].toNat:Int)=(c.toNat:Int):=by rw[hc]
   have hst:=Lz.NH Lz.eG.contains (l:=s.data.toList) (i:=i) (c:=c) (by rw[aw aN,hc]);have cN:=Ce c w;generalize Lz.eG.contains c=p at cN hst;have CN:=Ih cN;cases p with
   | true=>
     have HN:Hid (q=true):=Ih (by rw[HR.out,hst];rfl);clear hst cN hc HR
     go_wp2_with fail
     refine CN.out.mono ?_;rintro _ w1 ⟨rfl,rfl⟩
     go_wp2_with fail
     go_ret2
     rw[show r=.er 70 by rw[HF.out,HN.out];rfl];exact⟨_,rfl,rfl,ek⟩
   | false=>
     have HN:Hid (q=(s.data.toList.drop (i+1)).any Lz.eG.contains):=Ih (by rw[HR.out,hst];rfl);clear hst cN hc HR
     go_wp2_with fail
     refine CN.out.mono ?_;rintro _ w1 ⟨rfl,rfl⟩
     go_wp2_with fail
     go_roundw
     case rel=>exact⟨i+1,by go_num,by omega,HN,by first |rfl|trivial⟩
     case measure=>simp[intOf];omega
  ·have dH:¬(i:Int)<(s.size:Int):=by omega
   have HN:Hid (q=false):=Ih (by rw[HR.out,List.drop_eq_nil_of_le (by rw[aa];omega)];rfl);clear HR
   go_wp2_with fail
   refine(cE.out _).mono ?_;rintro _ w1 ⟨u,rfl,hu,aC⟩
   go_wp2_with fail
   go_ret2
   rw[show r=.ok (Lz.ah [] s.data.toList) by rw[HF.out,HN.out];rfl];exact⟨_,rfl,hu,aC⟩
theorem sI (s:ByteArray) (hs:s.size<=90000) (h0:s.data.toList[0]? ≠some 91) (w:World) (hE:de w):Calls Tryz.prog 28 #[.string s,.bool true] w (pg (Lz.aD s.data.toList true) w):=by
 have cD:=Ih (ly s (by omega) w);obtain⟨r,hr⟩:∃r,r=Lz.aD s.data.toList true:=⟨_,rfl⟩
 have HF:Hid (r=if Lz.low (Lz.an s.data.toList)=[]\/(Lz.low (Lz.an s.data.toList)).any Lz.jM=true then .er 70 else if Lz.bh (Lz.low (Lz.an s.data.toList))then Lz.ofO 71 (Lz.dJ (Lz.br (Lz.low (Lz.an s.data.toList))))else .ok (Lz.low (Lz.an s.data.toList))):=Ih (by
  rw[hr];unfold Lz.aD;rw[if_neg h0,if_pos rfl];rfl)
 have Ou:(Lz.an s.data.toList).length<=90000:=Nat.le_trans (Lz.oE _) (by rw[aa];exact hs);rw[<-hr];have ek:=Below.refl w.heap.size w;have VB:=fun h=>CL h0 h;have lM:=Ih VB;clear h0 VB hr;go_enter Tryz.func28,Tryz.ntmps28
 go_upto_region 1 with fail
 go_cut [18] (fun s wx=>s=.bool false/\w=wx)
 case first=>
  by_cases hz:0<s.size
  ·have Ik:(0:Int)<(s.size:Int):=by omega
   have hb:=lM.out hz
   go_wp2_with fail
   go_meet;exact⟨rfl,rfl⟩
  ·have Ik:¬(0:Int)<(s.size:Int):=by omega
   go_wp2_with fail
   go_meet;exact⟨rfl,rfl⟩
 case rest=>
 obtain⟨rfl,rfl⟩:=hcut
 go_wp2_with fail
 refine cD.out.mono ?_;rintro _ w1 ⟨d1,rfl,xd,aC⟩;have acn:d1.size<=90000:=by rw[zT xd.out];exact Ou
 have cL:=Ih (fh d1 (by omega) w1)
 go_wp2_with fail
 refine cL.out.mono ?_;rintro _ w2 ⟨d,rfl,hd,aU⟩;have kR:d.data.toList=Lz.low (Lz.an s.data.toList):=by rw[hd.out,xd.out]
 have hdz:d.size<=90000:=by rw[zT kR];unfold Lz.low;rw[List.length_map];exact Ou
 have cq:=ac aC aU;obtain⟨q,hq⟩:∃q,q=d.data.toList.any Lz.jM:=⟨_,rfl⟩
 have HF2:Hid (r=if d.data.toList=[]\/q=true then .er 70 else if Lz.bh d.data.toList then Lz.ofO 71 (Lz.dJ (Lz.br d.data.toList))else .ok d.data.toList):=Ih (by
  rw[HF.out,hq,kR])
 have HQ:=Ih hq;have Ak:=hE.below cq;clear hq kR hd xd HF cD cL Ou
 go_wp2_with fail
 go_loopw [10] (fun j wr=>∃i:Nat,j=.int .i64 i/\i<=d.size/\Hid (q=(d.data.toList.drop i).any Lz.jM)/\w2=wr) (fun j _=>d.size-(intOf j).toNat)
 case atStart=>exact⟨0,rfl,Nat.zero_le _,HQ,rfl⟩
 case round=>
  obtain⟨i,rfl,hi,HR,rfl⟩:=hrel;by_cases aN:i<d.size
  ·have dH:(i:Int)<(d.size:Int):=by omega
   have nP:(0:Int)<=(i:Int):=by omega
   obtain⟨c,hc⟩:∃c,c=d[i]:=⟨_,rfl⟩;have yI:(d[i].toNat:Int)=(c.toNat:Int):=by rw[hc]
   have hst:=Lz.NH Lz.jM (l:=d.data.toList) (i:=i) (c:=c) (by rw[aw aN,hc]);have hod:=Lz.Vf c;have cN:=Ce c w2;generalize Lz.eG.contains c=p at cN hod;have CN:=Ih cN;have e37:((c.toNat:Int)==37)=(c==37):=jx c 37;obtain⟨o,ho⟩:∃o,o=Lz.jM c:=⟨_,rfl⟩;rw[<-ho]at hst hod;have OP:=Ih hod;obtain⟨x37,aag⟩:∃x,x=(c==37):=⟨_,rfl⟩;rw[<-aag]at e37 OP;have Ap:Hid (o=true->q=true):=Ih (fun h=>by rw[HR.out,hst,h];rfl);have Lk:Hid (o=false->q=(d.data.toList.drop (i+1)).any Lz.jM):=Ih (fun h=>by rw[HR.out,hst,h];rfl);clear hst cN hc HR hod ho aag
   go_upto_region 19 with fail
   go_cut [89] (fun s wx=>s=.bool o/\w2=wx)
   case first=>
    go_wp2_with fail
    refine CN.out.mono ?_;rintro _ wn ⟨rfl,rfl⟩;cases p with
    | true=>
      have HO:Hid (o=true):=Ih (by rw[OP.out];simp);clear OP
      go_wp2_with fail
      go_meet;exact⟨by rw[HO.out],rfl⟩
    | false=>
      by_cases k1:c.toNat<32
      ·have k1I:(c.toNat:Int)<32:=by omega
       have HO:Hid (o=true):=Ih (by rw[OP.out];simp[k1]);clear OP k1
       go_wp2_with fail
       go_meet;exact⟨by rw[HO.out],rfl⟩
      ·have k1I:¬(c.toNat:Int)<32:=by omega
       by_cases k2:126<c.toNat
       ·have k2I:(126:Int)<(c.toNat:Int):=by omega
        have HO:Hid (o=true):=Ih (by rw[OP.out];simp[k2]);clear OP k1 k2
        go_wp2_with fail
        go_meet;exact⟨by rw[HO.out],rfl⟩
       ·have k2I:¬(126:Int)<(c.toNat:Int):=by omega
        have HO:Hid (o=x37):=Ih (by rw[OP.out];simp[k1,k2]);clear OP k1 k2
        go_wp2_with fail
        go_meet;exact⟨by rw[HO.out,decide_eq_false (show ¬(c.toNat:Int)<32 by omega),decide_eq_false (show ¬(126:Int)<(c.toNat:Int) by omega)];rfl,rfl⟩
   case rest=>
    obtain⟨rfl,rfl⟩:=hcut;cases o with
    | true=>
      have wY:Hid (r=.er 70):=Ih (by rw[HF2.out,if_pos (Or.inr (Ap.out rfl))]);clear Ap Lk OP
      go_wp2_with fail
      go_ret2
      rw[wY.out];exact⟨_,rfl,rfl,cq⟩
    | false=>
      have HN:Hid (q=(d.data.toList.drop (i+1)).any Lz.jM):=Ih (Lk.out rfl);clear Ap Lk OP
      go_wp2_with fail
      go_roundw
      case rel=>exact⟨i+1,by go_num,by omega,HN,by first |rfl|trivial⟩
      case measure=>simp[intOf];omega
  ·have dH:¬(i:Int)<(d.size:Int):=by omega
   have HN:Hid (q=false):=Ih (by rw[HR.out,List.drop_eq_nil_of_le (by rw[aa];omega)];rfl);clear HR;by_cases hz:d.size=0
   ·have he:d.toList.isEmpty=true:=ak hz;have aac:d.data.toList=[]:=List.eq_nil_of_length_eq_zero (by rw[aa];exact hz);have wY:Hid (r=.er 70):=Ih (by rw[HF2.out,if_pos (Or.inl aac)]);clear hz aac
    go_wp2_with fail
    go_ret2
    rw[wY.out];exact⟨_,rfl,rfl,cq⟩
   ·have he:d.toList.isEmpty=false:=aj (by omega);have dG:d.data.toList≠[]:=fun h=>hz (by rw[<-aa,h];rfl);have cE:=Fj d (by omega) w2
    have TI:Hid (r=if Lz.bh d.data.toList then Lz.ofO 71 (Lz.dJ (Lz.br d.data.toList))else .ok d.data.toList):=Ih (by
     rw[HF2.out,if_neg (fun h=>h.elim dG (by rw[HN.out];simp))])
    obtain⟨nb,xe⟩:∃nb,nb=Lz.bh d.data.toList:=⟨_,rfl⟩;rw[<-xe]at cE TI;have CE:=Ih cE;clear cE dG hz HF2 xe
    go_wp2_with fail
    refine CE.out.mono ?_;rintro _ w3 ⟨rfl,ex⟩;have dB:=ac cq ex;cases nb with
    | false=>
      have wY:Hid (r=.ok d.data.toList):=Ih (by rw[TI.out];rfl)
      go_wp2_with fail
      go_ret2
      rw[wY.out];exact⟨d,rfl,Ih rfl,dB⟩
    | true=>
      have wY:Hid (r=Lz.ofO 71 (Lz.dJ (Lz.br d.data.toList))):=Ih (by rw[TI.out];rfl);have OF:=Ak.below ex;have cL:=Ih (pJ d (by omega) w3);clear TI
      go_wp2_with fail
      refine cL.out.mono ?_;rintro _ w4 ⟨xs,b,cap,rfl,nk,ei,bv,Aq,dV,hT,kW⟩;have Zy:=OF.below kW;have vX:=ac dB kW;have cF:=D2 b cap xs w4 Zy hT ei (by omega) (fun x hx=>Nat.le_trans (dV x hx) (by omega));rw[Aq.out]at cF;generalize Lz.dJ (Lz.br d.data.toList)=o at cF wY;have CF:=Ih cF;clear cF dV hT Aq
      go_wp2_with fail
      refine CF.out.mono ?_;rintro _ w5 ⟨TH,bt⟩;have Lf:=ac vX TH;cases o with
      | none=>
        obtain rfl:=bt
        go_wp2_with fail
        go_ret2
        rw[wY.out];exact⟨_,rfl,rfl,Lf⟩
      | some t=>
        obtain⟨u,rfl,hu⟩:=bt
        go_wp2_with fail
        go_ret2
        rw[wY.out];exact⟨_,rfl,hu,Lf⟩
theorem sg (s:ByteArray) (sp:Bool) (hs:s.size<=90000) (w:World) (hE:de w):Calls Tryz.prog 28 #[.string s,.bool sp] w (pg (Lz.aD s.data.toList sp) w):=by
 by_cases h0:s.data.toList[0]? =some 91
 ·refine(qr s sp hs h0 w hE).mono ?_;rintro e w' ⟨hb,bt⟩;rw[Lz.AW h0];cases ho:Lz.qY s.data.toList with
  | none=>rw[ho]at bt;exact⟨_,bt,rfl,hb⟩
  | some t=>rw[ho]at bt;obtain⟨u,he,hu⟩:=bt;exact⟨u,he,hu,hb⟩
 ·cases sp with
  | true=>exact sI s hs h0 w hE
  | false=>exact we s hs h0 w
end Go.Proofs.YtlcbhacofagedaaGreatDoor
