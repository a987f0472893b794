/-
  Package match: Path.
-/
import Derived.Test.YtecoeebjaleeiaaGreatDoorJ24
import Derived.Test.YtecoeebjaleeiaaGreatDoorJ25
set_option maxHeartbeats 4000000
set_option maxRecDepth 100000
namespace Go.Proofs.YtecoeebjaleeiaaGreatDoor
open Go.RowKit
def ow (w:World):Prop:=
 ∃bm es clock,w.cell? ⟨4,0,none⟩=some (.map (some bm))/\bm<w.heap.size/\w.heap[bm]? =some (.map es clock)/\
  ∀(p:ByteArray) (W:World),p.size<=1000000000->W.heap[bm]? =some (.map es clock)->∃v,(Instr.lookup 244 (.map (some bm)) (.string p) false).run Tryz.prog W=.ok v W/\bd w v (Lz.kI p.data.toList)
theorem ow.below {w w':World} (h:ow w) (hb:Below w.heap.size w w') (hz:15<=w.heap.size):ow w':=by
 obtain⟨bm,es,clock,h1,h2,h3,h4⟩:=h;refine⟨bm,es,clock,?_,Nat.lt_of_lt_of_le h2 hb.size,by rw[hb.block _ h2];exact h3,fun p W hp hW=>?_⟩
 ·rw[hb.cell (p:=⟨4,0,none⟩) (Nat.lt_of_lt_of_le (by decide) hz)];exact h1
 ·obtain⟨v,hr,hv⟩:=h4 p W hp hW;exact⟨v,hr,hv.below hb⟩
structure rk (w:World):Prop where
 s:Env w
 u:ot w
 mp:ow w
theorem rk.below {w w':World} (h:rk w) (hb:Below w.heap.size w w'):rk w':=⟨h.s.below hb,h.u.below hb,h.mp.below hb h.s.size⟩
theorem kR {x u:ByteArray} (e:x.data.toList=u.data.toList):x=u:=ByteArray.ext (Array.toList_inj.1 e)
theorem wW (xs:List ByteArray) (u:ByteArray):Lib.containsS xs u=(xs.map (fun x:ByteArray=>x.data.toList)).contains u.data.toList:=by
 rw[Bool.eq_iff_iff,Lib.containsS_iff];simp only[List.contains_iff_mem,List.mem_map];constructor
 ·intro h;exact⟨u,h,rfl⟩
 ·rintro⟨x,hx,e⟩;exact kR e▸hx
theorem zi (v:Value) (l:List (List UInt8)) (u:ByteArray) (w:World) (h:bd w v l) (hl:l.length<=1000000):Calls Tryz.prog 190 #[v,.string u] w (aC (l.contains u.data.toList) w):=by
 obtain⟨a,c,xs,rfl,rfl,hx⟩:=h;cases xs with
 | nil=>exact(Tryz.slices_Contains_string_empty a c u w).mono fun e w' ⟨h1,h2⟩=>⟨h1,h2▸Below.refl _ _⟩
 | cons x r=>
   obtain⟨B,off,rfl,hB,hc⟩:=hx 0 x rfl;rw[List.length_map]at hl;refine(Tryz.slices_Contains_string B off (x::r).length c (x::r) u w (Nat.le_refl _) (by omega) (fun j hj=>?_)).mono fun e w' ⟨h1,h2⟩=>⟨?_,h2▸Below.refl _ _⟩
   ·obtain⟨B',acg,e1,_,e3⟩:=hx j ((x::r)[j]'hj) (List.getElem?_eq_getElem hj);injection e1 with e1;injection e1 with e1 e2 _
    subst e1;subst e2;rw[e3,List.getD_eq_getElem?_getD,List.getElem?_eq_getElem hj];rfl
   ·rw[h1,List.take_of_length_le (Nat.le_refl _),wW]
theorem uA (p u:ByteArray) (w:World) (hE:rk w) (hp:p.size<=1000000000):Calls Tryz.prog 153 #[.string p,.string u] w (aC (Lz.jC p.data.toList u.data.toList) w):=by
 obtain⟨bm,es,clock,hg,hbm,tJ,OV⟩:=hE.mp;obtain⟨v,oT,hv⟩:=OV p w hp tJ;have cC:=zi v _ u w hv (by unfold Lz.kI;split;decide;split;decide;split<;>decide);by_cases he:p.data.toList=u.data.toList
 ·have hB:(p.toList==u.toList)=true:=(iy p u).trans (decide_eq_true he);have HV:Hid (Lz.jC p.data.toList u.data.toList=true):=by show _=_;unfold Lz.jC;rw[he];simp
  clear he hv OV cC;go_enter Tryz.func153,Tryz.ntmps153
  go_wp2_with fail
  go_ret;exact⟨by rw[HV.out];rfl,Below.refl _ _⟩
 ·have hB:(p.toList==u.toList)=false:=(iy p u).trans (decide_eq_false he);obtain⟨q,hq⟩:∃q,q=(Lz.kI p.data.toList).contains u.data.toList:=⟨_,rfl⟩;rw[<-hq]at cC;have HV:Hid (Lz.jC p.data.toList u.data.toList=q):=by show _=_;unfold Lz.jC;rw[hq,beq_eq_false_iff_ne.2 he];simp
  have CC:=Ih cC;clear he hv OV cC hq;go_enter Tryz.func153,Tryz.ntmps153
  go_wp2_with fail
  refine CC.out.mono ?_;rintro e w1 ⟨rfl,ar⟩
  go_wp2_with fail
  go_ret;exact⟨by rw[HV.out];rfl,ar⟩
theorem Rg (s:ByteArray) (w:World):Calls Tryz.prog 155 #[.string s] w fun e w'=>e=.returned (.bool (Lz.KT s.data.toList))/\w=w':=by
 by_cases h0:s.data.toList=[104,116,116,112]
 ·have g0:=bg h0;have HV:Hid (Lz.KT s.data.toList=true):=by show _=_;rw[h0];rfl
  clear h0;go_enter Tryz.func155,Tryz.ntmps155
  go_wp2_with fail
  go_ret;rw[HV.out];exact⟨rfl,rfl⟩
 ·have g0:=bN h0;obtain⟨q,hq⟩:∃q,q=(s.toList==[104,116,116,112,115]):=⟨_,rfl⟩
  have HV:Hid (Lz.KT s.data.toList=(s.toList==[104,116,116,112,115])):=by
   show _=_;rw[rS];show(_==_||_==_)=_;rw[show(s.data.toList==Lz.nK)=false from beq_eq_false_iff_ne.2 h0,Bool.false_or];by_cases h1:s.data.toList=[104,116,116,112,115]
   ·rw[decide_eq_true h1,h1];rfl
   ·rw[decide_eq_false h1];exact beq_eq_false_iff_ne.2 h1
  clear h0;go_enter Tryz.func155,Tryz.ntmps155
  go_wp2_with fail
  go_ret;exact⟨by rw[HV.out];first |rfl|simp,rfl⟩
attribute [local go_sem ↓] Go.wp_at_zero Go.wp_at_succ
theorem FL (x:ak) (name:ByteArray) (w:World) (hE:dQ w) (hs:x.host.size<=90000) (hn:name.size<=1000000000):Calls Tryz.prog 191 #[x.val,.string name] w (aC (Lz.ES x.src name.data.toList) w):=by
 obtain⟨k,t,b,sc,ho,wd,po,pa⟩:=x;have hs':ho.size<=90000:=hs;clear hs;have ku:Below w.heap.size w (w.alloc (.cells #[.int .i64 k,.string t,.int .i64 b,.string sc,.string ho,.bool wd,.int .i64 po,.string pa] 174)):=(Below.refl _ w).alloc (Nat.le_refl _) _;obtain⟨R,hR⟩:∃R,R=Lz.ES (ak.src ⟨k,t,b,sc,ho,wd,po,pa⟩) name.data.toList:=⟨_,rfl⟩;rw[<-hR]
 have hv:R=if wd=true then(ho.data.toList==[]||Lib.hasSuffix name.data.toList (46::ho.data.toList))else if(ho.data.toList != Lz.MB&&Lz.ipP ho.data.toList)=true then false else ho.data.toList==name.data.toList:=by
  rw[hR];unfold Lz.ES ak.src;rfl
 dsimp only[ak.val]
 clear hR;cases wd with
 | true=>
   rw[if_pos rfl]at hv;by_cases h0:ho.size=0
   ·have e1:ho.toList.isEmpty=true:=aq h0;have e2:(ho.toList==[])=true:=by rw[rS];exact decide_eq_true (List.length_eq_zero_iff.1 (by rw[aa];exact h0))
    have HV:Hid (R=true):=by
     show _=_;rw[hv,List.length_eq_zero_iff.1 (by rw[aa];exact h0:ho.data.toList.length=0)];rfl
    clear hv h0;go_enter Tryz.func191,Tryz.ntmps191
    go_wp2_with fail
    go_ret;exact⟨by rw[HV.out];rfl,ku⟩
   ·have e1:ho.toList.isEmpty=false:=an (by omega);have e3:¬ho.data.toList=[]:=fun h=>h0 (by rw[<-aa,h];rfl);have e2:(ho.toList==[])=false:=by rw[rS];exact decide_eq_false e3
    obtain⟨q,hq⟩:∃q,q=Lib.hasSuffix name.data.toList (46::ho.data.toList):=⟨_,rfl⟩;have HV:Hid (R=q):=by show _=_;rw[hv,<-hq,beq_eq_false_iff_ne.2 e3];rfl
    obtain⟨d,hd⟩:∃d:ByteArray,d=⟨#[46]⟩++ho:=⟨_,rfl⟩;have vm:d.data.toList=46::ho.data.toList:=by rw[hd,be];rfl
    have cS0:∀W,Calls Tryz.prog 227 #[.string name,.string d] W fun e w'=>e=.returned (.bool q)/\W=w':=fun W=>
     (Tryz.strings_HasSuffix name d W (by omega)).mono fun e w' ⟨h1,h2⟩=>⟨by rw[h1,vm,<-hq],h2.symm⟩
    subst hd;have cS:=Ih cS0;have n1:¬(9223372036854775807<1+ho.size):=by omega
    clear hv h0 e3 hq cS0 vm;go_enter Tryz.func191,Tryz.ntmps191
    go_wp2_with fail
    refine(cS.out _).mono ?_;rintro e w1 ⟨rfl,rfl⟩
    go_wp2_with fail
    go_ret;exact⟨by rw[HV.out];rfl,ku⟩
 | false=>
   rw[if_neg (by decide)]at hv;have qX:=hE.below ku;have zw:=iy ho name;by_cases hl:ho.data.toList=Lz.MB
   ·have g0:(ho.toList==[49,50,55,46,48,46,48,46,49])=true:=bg hl
    have HV:Hid (R=(ho.toList==name.toList)):=by
     show _=_;rw[hv,hl,zw,if_neg (by simp),<-hl,Bool.eq_iff_iff];simp
    clear hv hl zw;go_enter Tryz.func191,Tryz.ntmps191
    go_wp2_with fail
    go_ret;exact⟨by rw[HV.out];rfl,ku⟩
   ·have g0:(ho.toList==[49,50,55,46,48,46,48,46,49])=false:=bN hl;obtain⟨q,hq⟩:∃q,q=Lz.ipP ho.data.toList:=⟨_,rfl⟩;have cI:Hid (Calls Tryz.prog 228 #[.string ho] (w.alloc (.cells #[.int .i64 k,.string t,.int .i64 b,.string sc,.string ho,.bool false,.int .i64 po,.string pa] 174)) (aC q (w.alloc (.cells #[.int .i64 k,.string t,.int .i64 b,.string sc,.string ho,.bool false,.int .i64 po,.string pa] 174)))):=Ih (hq▸Vp ho (by omega) _ qX)
    have HV:Hid (R=if q=true then false else(ho.toList==name.toList)):=by
     show _=_;rw[hv,zw,bne,beq_eq_false_iff_ne.2 hl,<-hq];cases q
     ·rw[if_neg (by simp),if_neg (by simp),Bool.eq_iff_iff];simp
     ·rfl
    clear hv hl zw hq qX;cases q with
    | true=>
      go_enter Tryz.func191,Tryz.ntmps191
      go_wp2_with fail
      refine cI.out.mono ?_;rintro e w1 ⟨rfl,ar⟩
      go_wp2_with fail
      go_ret;exact⟨by rw[HV.out];rfl,ac ku ar⟩
    | false=>
      have bc:∀w1,Below (w.alloc (.cells #[.int .i64 k,.string t,.int .i64 b,.string sc,.string ho,.bool false,.int .i64 po,.string pa] 174)).heap.size (w.alloc (.cells #[.int .i64 k,.string t,.int .i64 b,.string sc,.string ho,.bool false,.int .i64 po,.string pa] 174)) w1->w1.cell? ⟨w.heap.size,4,none⟩=some (.string ho):=fun w1 ar=>rowAt (Aw ar) 4 (.string ho) rfl;have Hc:=Ih bc;clear bc;go_enter Tryz.func191,Tryz.ntmps191
      go_wp2_with fail
      refine cI.out.mono ?_;rintro e w1 ⟨rfl,ar⟩;have c4:=Hc.out w1 ar
      go_wp2_with fail
      go_ret;exact⟨by rw[HV.out];rfl,ac ku ar⟩
attribute [local go_sem ↓] Go.wp_at_zero Go.wp_at_succ
theorem JQ (x y:ByteArray) (hx:x.size<=1000000000) (hy:y.size<=1000000000) (w:World):Calls Tryz.prog 230 #[.string x,.string y] w (aC (decide (Lz.aw x.data.toList=Lz.aw y.data.toList)) w):=by
 have cX:=Ih (fun W=>qC x (by omega) W);have cY:=Ih (fun W=>qC y (by omega) W);go_enter Tryz.func230,Tryz.ntmps230
 go_wp2_with fail
 refine(cX.out _).mono ?_;rintro e w1 ⟨u1,rfl,jR,ar⟩
 go_wp2_with fail
 refine(cY.out _).mono ?_;rintro e w2 ⟨u2,rfl,qM,az⟩
 go_wp2_with fail
 go_ret;exact⟨by rw[<-jR.out,<-qM.out,<-iy];rfl,ac ar az⟩
theorem pS (v1 v2:Value) (l1 l2:List (List UInt8)) (w:World) (h1:bd w v1 l1) (h2:bd w v2 l2) (hL:l1.length<=1000000000) (P4:∀x,x∈l1->x.length<=1000000000) (Ft:∀x,x∈l2->x.length<=1000000000):Calls Tryz.prog 229 #[v1,v2,.func (.func 230) #[] #[]] w (aC (decide (l1.map Lz.aw=l2.map Lz.aw)) w):=by
 obtain⟨a1,c1,mQ,rfl,rfl,iY⟩:=h1;obtain⟨a2,c2,iC,rfl,rfl,pY⟩:=h2;obtain⟨q,hq⟩:∃q,q=decide ((mQ.map (fun x:ByteArray=>x.data.toList)).map Lz.aw=(iC.map (fun x:ByteArray=>x.data.toList)).map Lz.aw):=⟨_,rfl⟩;rw[<-hq];have Hq:=Ih hq;rw[List.length_map]at hL;have HZ1:=Ih P4;have PN:=Ih Ft;clear hq P4 Ft;by_cases hl:mQ.length=iC.length
 ·have Z7:((mQ.length:Int) != (iC.length:Int))=false:=by rw[hl];simp
  by_cases h0:mQ.length=0
  ·have e1:mQ=[]:=List.length_eq_zero_iff.1 h0;have e2:iC=[]:=List.length_eq_zero_iff.1 (by omega);subst e1;subst e2;have HQ:Hid (q=true):=by show _=_;rw[Hq.out];rfl
   clear hl iY pY h0;go_enter Tryz.func229,Tryz.ntmps229
   go_wp2_with fail
   refine wp_loop_rounds 1 ?_;rw[rounds_succ]
   go_wp2_with fail
   go_ret;exact⟨by rw[HQ.out];rfl,Below.refl _ _⟩
  have Hl:=Ih hl;obtain⟨G1,o1,rfl,VJ,Ql⟩:=iY 0 mQ[0] (List.getElem?_eq_getElem (by omega));obtain⟨G2,o2,rfl,LK,Ic⟩:=pY 0 iC[0] (List.getElem?_eq_getElem (by omega));clear Ql Ic
  have Hx1:Hid (∀(j:Nat) (x:ByteArray),mQ[j]? =some x->w.cell? ⟨G1,o1+j,none⟩=some (.string x)):=Ih (fun j x hj=>by
   obtain⟨G,o,e,_,hc⟩:=iY j x hj;injection e with e;injection e with e1 e2 _
   subst e1;subst e2;exact hc)
  have Hx2:Hid (∀(j:Nat) (x:ByteArray),iC[j]? =some x->w.cell? ⟨G2,o2+j,none⟩=some (.string x)):=Ih (fun j x hj=>by
   obtain⟨G,o,e,_,hc⟩:=pY j x hj;injection e with e;injection e with e1 e2 _
   subst e1;subst e2;exact hc)
  clear hl iY pY;go_enter Tryz.func229,Tryz.ntmps229
  go_wp2_with fail
  go_loopw [17] (fun k wr=>∃i:Nat,k=.int .i64 i/\i<=mQ.length/\Hid (((mQ.map (fun x:ByteArray=>x.data.toList)).map Lz.aw).take i=((iC.map (fun x:ByteArray=>x.data.toList)).map Lz.aw).take i)/\Below w.heap.size w wr) (fun k _=>mQ.length-(intOf k).toNat)
  case atStart=>exact⟨0,rfl,Nat.zero_le _,Ih (by simp),Below.refl _ _⟩
  case round=>
   obtain⟨i,rfl,hi,hT,aK⟩:=hrel;by_cases aV:i<mQ.length
   ·have bW:(i:Int)<(mQ.length:Int):=by omega
    have oY:i<iC.length:=by rw[<-Hl.out];exact aV
    have Jt:(i:Int)<(iC.length:Int):=by omega
    have o9:(0:Int)<=(i:Int):=by omega
    obtain⟨x,hx⟩:∃x,x=mQ[i]:=⟨_,rfl⟩;obtain⟨y,hy⟩:∃y,y=iC[i]:=⟨_,rfl⟩;have O4:mQ[i]? =some x:=by rw[List.getElem?_eq_getElem aV,hx]
    have Ud:iC[i]? =some y:=by rw[List.getElem?_eq_getElem oY,hy]
    have iD:=Hx1.out i x O4;have su:=Hx2.out i y Ud;have d1:wr.cell? ⟨G1,o1+i,none⟩=some (.string x):=by rw[aK.cell (p:=⟨G1,o1+i,none⟩) VJ];exact iD
    have d2:wr.cell? ⟨G2,o2+i,none⟩=some (.string y):=by rw[aK.cell (p:=⟨G2,o2+i,none⟩) LK];exact su
    have bZ:((mQ.map (fun x:ByteArray=>x.data.toList)).map Lz.aw).take (i+1)=((mQ.map (fun x:ByteArray=>x.data.toList)).map Lz.aw).take i++[Lz.aw x.data.toList]/\((iC.map (fun x:ByteArray=>x.data.toList)).map Lz.aw).take (i+1)=((iC.map (fun x:ByteArray=>x.data.toList)).map Lz.aw).take i++[Lz.aw y.data.toList]:=by
     constructor
     ·rw[List.take_succ_eq_append_getElem (by simpa using aV)];simp[hx]
     ·rw[List.take_succ_eq_append_getElem (by simpa using oY)];simp[hy]
    have T8:x.size<=1000000000:=by rw[<-aa];exact HZ1.out _ (List.mem_map.2 ⟨x,List.mem_of_getElem? O4,rfl⟩)
    have ZY:y.size<=1000000000:=by rw[<-aa];exact PN.out _ (List.mem_map.2 ⟨y,List.mem_of_getElem? Ud,rfl⟩)
    have cP:=Ih (JQ x y T8 ZY wr);by_cases he:Lz.aw x.data.toList=Lz.aw y.data.toList
    ·rw[decide_eq_true he]at cP;have AI:Hid (((mQ.map (fun x:ByteArray=>x.data.toList)).map Lz.aw).take (i+1)=((iC.map (fun x:ByteArray=>x.data.toList)).map Lz.aw).take (i+1)):=by show _=_;rw[bZ.1,bZ.2,hT.out,he]
     clear hx hy O4 Ud iD su he bZ hT
     go_wp2_with fail
     refine cP.out.mono ?_;rintro e w5 ⟨rfl,aI⟩;have nW:=ac aK aI
     go_wp2_with fail
     go_roundw
     case rel=>exact⟨i+1,by go_num,by omega,AI,nW⟩
     case measure=>simp[intOf];omega
    ·rw[decide_eq_false he]at cP
     have HQ:Hid (q=false):=by
      show _=_;rw[Hq.out];refine decide_eq_false fun e=>he ?_;have h1:=congrArg (List.take (i+1)) e;rw[bZ.1,bZ.2,hT.out]at h1;simpa using List.append_cancel_left h1
     clear hx hy O4 Ud iD su he bZ hT
     go_wp2_with fail
     refine cP.out.mono ?_;rintro e w5 ⟨rfl,aI⟩;have nW:=ac aK aI
     go_wp2_with fail
     go_ret;exact⟨by rw[HQ.out];rfl,nW⟩
   ·have bW:¬(i:Int)<(mQ.length:Int):=by omega
    have HQ:Hid (q=true):=by
     show _=_;rw[Hq.out];refine decide_eq_true ?_;have h1:=hT.out;rw[List.take_of_length_le (by simp;omega),List.take_of_length_le (by have:=Hl.out;simp;omega)]at h1;exact h1
    clear hT
    go_wp2_with fail
    go_ret;exact⟨by rw[HQ.out];rfl,aK⟩
 ·have Z7:((mQ.length:Int) != (iC.length:Int))=true:=by simp;omega
  have HQ:Hid (q=false):=by
   show _=_;rw[Hq.out];refine decide_eq_false fun e=>hl ?_;have:=congrArg List.length e;simpa using this
  clear hl iY pY;go_enter Tryz.func229,Tryz.ntmps229
  go_wp2_with fail
  go_ret;exact⟨by rw[HQ.out];rfl,Below.refl _ _⟩
theorem wX {w:World} {B:Nat} {xs:List ByteArray} {fr:Nat×Nat} (h:w.heap[B]? =some (.cells (xs.map Value.string).toArray 9 fr)) (n c:Nat) (hn:n<=xs.length):bd w (.slice (some ⟨B,0,none⟩) n c) ((xs.map (fun x:ByteArray=>x.data.toList)).take n):=by
 refine⟨some ⟨B,0,none⟩,c,xs.take n,by rw[List.length_take,Nat.min_eq_left hn],by rw[List.map_take],fun j x hj=>⟨B,0,rfl,af h,?_⟩⟩
 have Ic:xs[j]? =some x:=by
  rw[List.getElem?_take]at hj;split at hj
  ·exact hj
  ·cases hj
 have:=rowAt h j (.string x) (by simp[Ic]);rw[Nat.zero_add];exact this
theorem KL (p u:ByteArray) (w:World) (hE:dQ w) (hp:p.size<=1000000) (hu:u.size<=1000000):Calls Tryz.prog 193 #[.string p,.string u] w (aC (Lz.wR p.data.toList u.data.toList) w):=by
 obtain⟨R,hR⟩:∃R,R=Lz.wR p.data.toList u.data.toList:=⟨_,rfl⟩;rw[<-hR];obtain⟨q,hq⟩:∃q,q=decide (p.data.toList=[]\/(p.data.toList=[47]/\u.data.toList=[])):=⟨_,rfl⟩;obtain⟨q2,bQ⟩:∃q2,q2=Lib.hasSuffix p.data.toList [47]:=⟨_,rfl⟩;have L6:Hid (q=true->R=true):=Ih (fun h=>by rw[hR];unfold Lz.wR;rw[if_pos (of_decide_eq_true (hq▸h))])
 have WL:Hid (q=false->q2=true->(Lz.av 47 p.data.toList).length<=(Lz.av 47 u.data.toList).length->R=decide ((Lz.av 47 p.data.toList).dropLast.map Lz.aw=((Lz.av 47 u.data.toList).take ((Lz.av 47 p.data.toList).length-1)).map Lz.aw)):=Ih (fun h h2 h3=>by
  rw[hR];unfold Lz.wR;rw[if_neg (of_decide_eq_false (hq▸h)),if_pos ⟨bQ▸h2,h3⟩,Bool.eq_iff_iff];simp)
 have HV3:Hid (q=false->¬(q2=true/\(Lz.av 47 p.data.toList).length<=(Lz.av 47 u.data.toList).length)->R=decide ((Lz.av 47 p.data.toList).map Lz.aw=(Lz.av 47 u.data.toList).map Lz.aw)):=Ih (fun h h2=>by
  rw[hR];unfold Lz.wR;rw[if_neg (of_decide_eq_false (hq▸h)),if_neg (bQ▸h2),Bool.eq_iff_iff];simp)
 have cS:=Ih (rD p 47 (by omega) w hE);have cT:=Ih (fun W hW=>rD u 47 (by omega) W hW)
 have cF:Hid (∀W,Calls Tryz.prog 227 #[.string p,.string ⟨#[47]⟩] W fun e w'=>e=.returned (.bool q2)/\W=w'):=Ih (fun W=>
  (Tryz.strings_HasSuffix p ⟨#[47]⟩ W (by omega)).mono fun e w' ⟨h1,h2⟩=>⟨by rw[h1,bQ],h2.symm⟩)
 have HE:=Ih hE;have Hq:=Ih hq;clear hR hq bQ hE;go_enter Tryz.func193,Tryz.ntmps193
 go_upto_region 1 with fail
 go_cut [16] (fun s wx=>s=.bool q/\w=wx)
 case first=>
  by_cases h0:p.size=0
  ·have e1:p.toList.isEmpty=true:=aq h0;have HQ:Hid (q=true):=by show _=_;rw[Hq.out];exact decide_eq_true (Or.inl (List.length_eq_zero_iff.1 (by rw[aa];exact h0)))
   clear h0
   go_wp2_with fail
   go_meet;exact⟨by rw[HQ.out],rfl⟩
  ·have e1:p.toList.isEmpty=false:=an (by omega);have e0:¬p.data.toList=[]:=fun h=>h0 (by rw[<-aa,h];rfl);by_cases h1:p.data.toList=[47]
   ·have g1:=bg h1;by_cases h2:u.size=0
    ·have e2:u.toList.isEmpty=true:=aq h2;have HQ:Hid (q=true):=by show _=_;rw[Hq.out];exact decide_eq_true (Or.inr ⟨h1,List.length_eq_zero_iff.1 (by rw[aa];exact h2)⟩)
     clear h0 h1 h2 e0
     go_wp2_with fail
     go_meet;exact⟨by rw[HQ.out],rfl⟩
    ·have e2:u.toList.isEmpty=false:=an (by omega);have HQ:Hid (q=false):=by show _=_;rw[Hq.out];exact decide_eq_false (fun h=>h.elim e0 (fun h=>h2 (by rw[<-aa,h.2];rfl)))
     clear h0 h1 h2 e0
     go_wp2_with fail
     go_meet;exact⟨by rw[HQ.out],rfl⟩
   ·have g1:=bN h1;have HQ:Hid (q=false):=by show _=_;rw[Hq.out];exact decide_eq_false (fun h=>h.elim e0 (fun h=>h1 h.1))
    clear h0 h1 e0
    go_wp2_with fail
    go_meet;exact⟨by rw[HQ.out],rfl⟩
 case rest=>
  obtain⟨rfl,rfl⟩:=hcut;cases q with
  | true=>
    go_wp2_with fail
    go_ret;exact⟨by rw[L6.out (by simp)];rfl,Below.refl _ _⟩
  | false=>
    go_wp2_with fail
    refine cS.out.mono ?_;rintro e w1 ⟨xs,rfl,gW,km⟩;have ar:Below w.heap.size w w1:=by rw[km.out];exact(Below.refl _ w).alloc (Nat.le_refl _) _
    have bC:w1.heap[w.heap.size]? =some (.cells (xs.map Value.string).toArray 9 (0,0)):=by rw[km.out];exact ah _ _
    have qX:=HE.out.below ar;clear km
    go_wp2_with fail
    refine(cT.out _ qX).mono ?_;rintro e w2 ⟨ys,rfl,jV,uM⟩;have az:Below w1.heap.size w1 w2:=by rw[uM.out];exact(Below.refl _ w1).alloc (Nat.le_refl _) _
    have bB:w2.heap[w1.heap.size]? =some (.cells (ys.map Value.string).toArray 9 (0,0)):=by rw[uM.out];exact ah _ _
    have oZ:w2.heap[w.heap.size]? =some (.cells (xs.map Value.string).toArray 9 (0,0)):=(az.block _ (af bC)).trans bC;have aK:Below w.heap.size w w2:=ac ar az;have o7:xs.length=(Lz.av 47 p.data.toList).length:=by rw[<-gW.out,List.length_map]
    have hyl:ys.length=(Lz.av 47 u.data.toList).length:=by rw[<-jV.out,List.length_map]
    have ZX:xs.length<=1000001:=by
     have:=Lz.fY 47 p.data.toList;rw[o7];rw[aa]at this;omega
    have iY:1<=xs.length:=by
     have:=Lz.Ap 47 p.data.toList;rw[o7];cases h:Lz.av 47 p.data.toList with
     | nil=>exact absurd h this
     | cons _ _=>simp
    have P4:∀x,x∈Lz.av 47 p.data.toList->x.length<=1000000000:=fun x hx=>by
     rw[<-gW.out]at hx;obtain⟨y,hy,rfl⟩:=List.mem_map.1 hx;have:=ip gW.out hy;rw[aa];omega
    have Ft:∀x,x∈Lz.av 47 u.data.toList->x.length<=1000000000:=fun x hx=>by
     rw[<-jV.out]at hx;obtain⟨y,hy,rfl⟩:=List.mem_map.1 hx;have:=ip jV.out hy;rw[aa];omega
    have PX:Hid (∀n c,n<=xs.length->bd w2 (.slice (some ⟨w.heap.size,0,none⟩) n c) ((Lz.av 47 p.data.toList).take n)):=Ih (fun n c hn=>by rw[<-gW.out];exact wX oZ n c hn);have PY:Hid (∀n c,n<=ys.length->bd w2 (.slice (some ⟨w1.heap.size,0,none⟩) n c) ((Lz.av 47 u.data.toList).take n)):=Ih (fun n c hn=>by rw[<-jV.out];exact wX bB n c hn);have HZ1:=Ih P4;have PN:=Ih Ft;have HXL:=Ih o7;have HYL:=Ih hyl;obtain⟨n,hn⟩:∃n,n=xs.length:=⟨_,rfl⟩;obtain⟨m,hm⟩:∃m,m=ys.length:=⟨_,rfl⟩;rw[<-hn]at ZX iY;have HN:=Ih hn;have HM:=Ih hm;clear uM bC bB oZ gW jV ar az o7 hyl P4 Ft cS;rw[<-hn,<-hm];clear hn hm;obtain⟨q3,JE⟩:∃q3,q3=(q2&&decide (n<=m)):=⟨_,rfl⟩;have HQ3:=Ih JE;clear JE
    go_upto_region 4 with fail
    go_cut [29] (fun s wx=>s=.bool q3/\w2=wx)
    case first=>
     cases q2 with
     | false=>
       have HQ:Hid (q3=false):=by show _=_;rw[HQ3.out];rfl
       go_wp2_with fail
       refine(cF.out _).mono ?_;rintro e w5 ⟨rfl,rfl⟩
       go_wp2_with fail
       go_meet;exact⟨by rw[HQ.out],rfl⟩
     | true=>
       by_cases qO:n<=m
       ·have HQ:Hid (q3=true):=by show _=_;rw[HQ3.out,decide_eq_true qO];rfl
        have hI:(n:Int)<=(m:Int):=by omega
        go_wp2_with fail
        refine(cF.out _).mono ?_;rintro e w5 ⟨rfl,rfl⟩
        go_wp2_with fail
        go_meet;exact⟨by rw[HQ.out],rfl⟩
       ·have HQ:Hid (q3=false):=by show _=_;rw[HQ3.out,decide_eq_false qO];rfl
        have hI:¬(n:Int)<=(m:Int):=by omega
        go_wp2_with fail
        refine(cF.out _).mono ?_;rintro e w5 ⟨rfl,rfl⟩
        go_wp2_with fail
        go_meet;exact⟨by rw[HQ.out],rfl⟩
    case rest=>
     obtain⟨rfl,rfl⟩:=hcut;cases q3 with
     | true=>
       have h3:=HQ3.out;have bQ:q2=true:=by cases q2;simp at h3;rfl
       have qO:n<=m:=by rw[bQ]at h3;simpa using h3.symm
       obtain⟨k,hk⟩:∃k,k=n-1:=⟨_,rfl⟩;have zo:(n:Int)-1=(k:Int):=by omega
       have yx:(0:Int)<=(k:Int):=by omega
       have XY:(k:Int)<=(n:Int):=by omega
       have hk3:(k:Int)<=(m:Int):=by omega
       have HV:Hid (R=decide (((Lz.av 47 p.data.toList).take k).map Lz.aw=((Lz.av 47 u.data.toList).take k).map Lz.aw)):=by
        show _=_;have:=WL.out (by simp) bQ (by rw[<-HXL.out,<-HYL.out,<-HN.out,<-HM.out];exact qO);rw[List.dropLast_eq_take,<-HXL.out,<-HN.out,<-hk]at this;exact this
       have cE:=Ih (pS _ _ _ _ w2 (PX.out k n (by have:=HN.out;omega)) (PY.out k m (by have:=HM.out;omega)) (by rw[List.length_take];omega) (fun x hx=>HZ1.out x (List.mem_of_mem_take hx)) (fun x hx=>PN.out x (List.mem_of_mem_take hx)));clear h3 bQ qO hk
       go_wp2_with fail
       refine cE.out.mono ?_;rintro e w5 ⟨rfl,aI⟩
       go_wp2_with fail
       go_ret;exact⟨by rw[HV.out,List.map_take,List.map_take];rfl,ac aK aI⟩
     | false=>
       have HV:Hid (R=decide ((Lz.av 47 p.data.toList).map Lz.aw=(Lz.av 47 u.data.toList).map Lz.aw)):=Ih (HV3.out (by simp) (fun h=>by
        have h3:=HQ3.out;rw[h.1,decide_eq_true (by have:=h.2;rw[<-HXL.out,<-HYL.out,<-HN.out,<-HM.out]at this;exact this)]at h3;cases h3))
       have eX:=PX.out n n (by have:=HN.out;omega);have eY:=PY.out m m (by have:=HM.out;omega);rw[List.take_of_length_le (by rw[HN.out,HXL.out];exact Nat.le_refl _)]at eX;rw[List.take_of_length_le (by rw[HM.out,HYL.out];exact Nat.le_refl _)]at eY;have cE:=Ih (pS _ _ _ _ w2 eX eY (by rw[<-HXL.out,<-HN.out];omega) HZ1.out PN.out);clear eX eY
       go_wp2_with fail
       refine cE.out.mono ?_;rintro e w5 ⟨rfl,aI⟩
       go_wp2_with fail
       go_ret;exact⟨by rw[HV.out];rfl,ac aK aI⟩
end Go.Proofs.YtecoeebjaleeiaaGreatDoor
