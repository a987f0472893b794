/-
  Package match: Path.
-/
import Derived.Test.YtjhccadmmnjpeaaGreatDoorT29
import Derived.Test.YtjhccadmmnjpeaaGreatDoorT30
set_option maxHeartbeats 4000000
set_option maxRecDepth 100000
namespace Go.Proofs.YtjhccadmmnjpeaaGreatDoor
open Go.RowKit
def BetterAt (w:World):Prop:=
 ∃bm es clock,w.cell? ⟨3,0,none⟩=some (.map (some bm))/\bm<w.heap.size/\w.heap[bm]? =some (.map es clock)/\
  ∀(p:ByteArray) (W:World),p.size<=1000000000->W.heap[bm]? =some (.map es clock)->∃v,(Instr.lookup 206 (.map (some bm)) (.string p) false).run Tryz.prog W=.ok v W/\PathAt w v (Lz.betterP p.data.toList)
theorem BetterAt.below {w w':World} (h:BetterAt w) (hb:Below w.heap.size w w') (hz:13<=w.heap.size):BetterAt w':=by
 obtain⟨bm,es,clock,h1,h2,h3,h4⟩:=h;refine⟨bm,es,clock,?_,Nat.lt_of_lt_of_le h2 hb.size,by rw[hb.block _ h2];exact h3,fun p W hp hW=>?_⟩
 ·rw[hb.cell (p:=⟨3,0,none⟩) (Nat.lt_of_lt_of_le (by decide) hz)];exact h1
 ·obtain⟨v,hr,hv⟩:=h4 p W hp hW;exact⟨v,hr,hv.below hb⟩
structure EnvM (w:World):Prop where
 s:Env w
 u:EnvU w
 mp:BetterAt w
theorem EnvM.below {w w':World} (h:EnvM w) (hb:Below w.heap.size w w'):EnvM w':=⟨h.s.below hb,h.u.below hb,h.mp.below hb h.s.size⟩
theorem text_eq_of {x u:ByteArray} (e:x.data.toList=u.data.toList):x=u:=ByteArray.ext (Array.toList_inj.1 e)
theorem containsS_path (xs:List ByteArray) (u:ByteArray):Lib.containsS xs u=(xs.map (fun x:ByteArray=>x.data.toList)).contains u.data.toList:=by
 rw[Bool.eq_iff_iff,Lib.containsS_iff];simp only[List.contains_iff_mem,List.mem_map];constructor
 ·intro h;exact⟨u,h,rfl⟩
 ·rintro⟨x,hx,e⟩;exact text_eq_of e▸hx
theorem Contains_path (v:Value) (l:List (List UInt8)) (u:ByteArray) (w:World) (h:PathAt w v l) (hl:l.length<=1000000):Calls Tryz.prog 176 #[v,.string u] w (RBool (l.contains u.data.toList) w):=by
 obtain⟨a,c,xs,rfl,rfl,hx⟩:=h;cases xs with
 | nil=>exact(Tryz.slices_Contains_string_empty a c u w).mono fun e w' ⟨h1,h2⟩=>⟨h1,h2▸Below.refl _ _⟩
 | cons x r=>
   obtain⟨B,off,rfl,hB,hc⟩:=hx 0 x rfl;rw[List.length_map]at hl;refine(Tryz.slices_Contains_string B off (x::r).length c (x::r) u w (Nat.le_refl _) (by omega) (fun j hj=>?_)).mono fun e w' ⟨h1,h2⟩=>⟨?_,h2▸Below.refl _ _⟩
   ·obtain⟨B',off',e1,_,e3⟩:=hx j ((x::r)[j]'hj) (List.getElem?_eq_getElem hj);injection e1 with e1;injection e1 with e1 e2 _
    subst e1;subst e2;rw[e3,List.getD_eq_getElem?_getD,List.getElem?_eq_getElem hj];rfl
   ·rw[h1,List.take_of_length_le (Nat.le_refl _),containsS_path]
theorem SchemeM_any (p u:ByteArray) (w:World) (hE:EnvM w) (hp:p.size<=1000000000):Calls Tryz.prog 116 #[.string p,.string u] w (RBool (Lz.schemeM p.data.toList u.data.toList) w):=by
 obtain⟨bm,es,clock,hg,hbm,hmap,hlook⟩:=hE.mp;obtain⟨v,hrun,hv⟩:=hlook p w hp hmap;have cC:=Contains_path v _ u w hv (by unfold Lz.betterP;split;decide;split;decide;split<;>decide);by_cases he:p.data.toList=u.data.toList
 ·have hB:(p.toList==u.toList)=true:=(same_text p u).trans (decide_eq_true he);have HV:Hid (Lz.schemeM p.data.toList u.data.toList=true):=by show _=_;unfold Lz.schemeM;rw[he];simp
  clear he hv hlook cC;go_enter Tryz.func116,Tryz.ntmps116
  go_wp2_with fail
  go_ret;exact⟨by rw[HV.out];rfl,Below.refl _ _⟩
 ·have hB:(p.toList==u.toList)=false:=(same_text p u).trans (decide_eq_false he);obtain⟨q,hq⟩:∃q,q=(Lz.betterP p.data.toList).contains u.data.toList:=⟨_,rfl⟩;rw[<-hq]at cC;have HV:Hid (Lz.schemeM p.data.toList u.data.toList=q):=by show _=_;unfold Lz.schemeM;rw[hq,beq_eq_false_iff_ne.2 he];simp
  have CC:=Ih cC;clear he hv hlook cC hq;go_enter Tryz.func116,Tryz.ntmps116
  go_wp2_with fail
  refine CC.out.mono ?_;rintro e w1 ⟨rfl,hb1⟩
  go_wp2_with fail
  go_ret;exact⟨by rw[HV.out];rfl,hb1⟩
theorem web_any (s:ByteArray) (w:World):Calls Tryz.prog 118 #[.string s] w fun e w'=>e=.returned (.bool (Lz.webP s.data.toList))/\w=w':=by
 by_cases h0:s.data.toList=[104,116,116,112]
 ·have g0:=text_yes h0;have HV:Hid (Lz.webP s.data.toList=true):=by show _=_;rw[h0];rfl
  clear h0;go_enter Tryz.func118,Tryz.ntmps118
  go_wp2_with fail
  go_ret;rw[HV.out];exact⟨rfl,rfl⟩
 ·have g0:=text_no h0;obtain⟨q,hq⟩:∃q,q=(s.toList==[104,116,116,112,115]):=⟨_,rfl⟩
  have HV:Hid (Lz.webP s.data.toList=(s.toList==[104,116,116,112,115])):=by
   show _=_;rw[text_is];show(_==_||_==_)=_;rw[show(s.data.toList==Lz.httpS)=false from beq_eq_false_iff_ne.2 h0,Bool.false_or];by_cases h1:s.data.toList=[104,116,116,112,115]
   ·rw[decide_eq_true h1,h1];rfl
   ·rw[decide_eq_false h1];exact beq_eq_false_iff_ne.2 h1
  clear h0;go_enter Tryz.func118,Tryz.ntmps118
  go_wp2_with fail
  go_ret;exact⟨by rw[HV.out];first |rfl|simp,rfl⟩
attribute [local go_sem ↓] Go.wp_at_zero Go.wp_at_succ
theorem hostMt_any (x:SrcB) (name:ByteArray) (w:World) (hE:EnvH w) (hs:x.host.size<=90000) (hn:name.size<=1000000000):Calls Tryz.prog 177 #[x.val,.string name] w (RBool (Lz.hostM x.src name.data.toList) w):=by
 obtain⟨k,t,b,sc,ho,wd,po,pa⟩:=x;have hs':ho.size<=90000:=hs;clear hs;have hb0:Below w.heap.size w (w.alloc (.cells #[.int .i64 k,.string t,.int .i64 b,.string sc,.string ho,.bool wd,.int .i64 po,.string pa] 47)):=(Below.refl _ w).alloc (Nat.le_refl _) _;obtain⟨R,hR⟩:∃R,R=Lz.hostM (SrcB.src ⟨k,t,b,sc,ho,wd,po,pa⟩) name.data.toList:=⟨_,rfl⟩;rw[<-hR]
 have hv:R=if wd=true then(ho.data.toList==[]||Lib.hasSuffix name.data.toList (46::ho.data.toList))else if(ho.data.toList != Lz.loopS&&Lz.ipP ho.data.toList)=true then false else ho.data.toList==name.data.toList:=by
  rw[hR];unfold Lz.hostM SrcB.src;rfl
 dsimp only[SrcB.val]
 clear hR;cases wd with
 | true=>
   rw[if_pos rfl]at hv;by_cases h0:ho.size=0
   ·have e1:ho.toList.isEmpty=true:=isEmpty_of_size h0;have e2:(ho.toList==[])=true:=by rw[text_is];exact decide_eq_true (List.length_eq_zero_iff.1 (by rw[len_of_size];exact h0))
    have HV:Hid (R=true):=by
     show _=_;rw[hv,List.length_eq_zero_iff.1 (by rw[len_of_size];exact h0:ho.data.toList.length=0)];rfl
    clear hv h0;go_enter Tryz.func177,Tryz.ntmps177
    go_wp2_with fail
    go_ret;exact⟨by rw[HV.out];rfl,hb0⟩
   ·have e1:ho.toList.isEmpty=false:=isEmpty_of_pos (by omega);have e3:¬ho.data.toList=[]:=fun h=>h0 (by rw[<-len_of_size,h];rfl);have e2:(ho.toList==[])=false:=by rw[text_is];exact decide_eq_false e3
    obtain⟨q,hq⟩:∃q,q=Lib.hasSuffix name.data.toList (46::ho.data.toList):=⟨_,rfl⟩;have HV:Hid (R=q):=by show _=_;rw[hv,<-hq,beq_eq_false_iff_ne.2 e3];rfl
    obtain⟨d,hd⟩:∃d:ByteArray,d=⟨#[46]⟩++ho:=⟨_,rfl⟩;have hdd:d.data.toList=46::ho.data.toList:=by rw[hd,append_data'];rfl
    have cS0:∀W,Calls Tryz.prog 218 #[.string name,.string d] W fun e w'=>e=.returned (.bool q)/\W=w':=fun W=>
     (Tryz.strings_HasSuffix name d W (by omega)).mono fun e w' ⟨h1,h2⟩=>⟨by rw[h1,hdd,<-hq],h2.symm⟩
    subst hd;have cS:=Ih cS0;have n1:¬(9223372036854775807<1+ho.size):=by omega
    clear hv h0 e3 hq cS0 hdd;go_enter Tryz.func177,Tryz.ntmps177
    go_wp2_with fail
    refine(cS.out _).mono ?_;rintro e w1 ⟨rfl,rfl⟩
    go_wp2_with fail
    go_ret;exact⟨by rw[HV.out];rfl,hb0⟩
 | false=>
   rw[if_neg (by decide)]at hv;have hE1:=hE.below hb0;have hsm:=same_text ho name;by_cases hl:ho.data.toList=Lz.loopS
   ·have g0:(ho.toList==[49,50,55,46,48,46,48,46,49])=true:=text_yes hl
    have HV:Hid (R=(ho.toList==name.toList)):=by
     show _=_;rw[hv,hl,hsm,if_neg (by simp),<-hl,Bool.eq_iff_iff];simp
    clear hv hl hsm;go_enter Tryz.func177,Tryz.ntmps177
    go_wp2_with fail
    go_ret;exact⟨by rw[HV.out];rfl,hb0⟩
   ·have g0:(ho.toList==[49,50,55,46,48,46,48,46,49])=false:=text_no hl;obtain⟨q,hq⟩:∃q,q=Lz.ipP ho.data.toList:=⟨_,rfl⟩;have cI:Hid (Calls Tryz.prog 219 #[.string ho] (w.alloc (.cells #[.int .i64 k,.string t,.int .i64 b,.string sc,.string ho,.bool false,.int .i64 po,.string pa] 47)) (RBool q (w.alloc (.cells #[.int .i64 k,.string t,.int .i64 b,.string sc,.string ho,.bool false,.int .i64 po,.string pa] 47)))):=Ih (hq▸IP_any ho (by omega) _ hE1)
    have HV:Hid (R=if q=true then false else(ho.toList==name.toList)):=by
     show _=_;rw[hv,hsm,bne,beq_eq_false_iff_ne.2 hl,<-hq];cases q
     ·rw[if_neg (by simp),if_neg (by simp),Bool.eq_iff_iff];simp
     ·rfl
    clear hv hl hsm hq hE1;cases q with
    | true=>
      go_enter Tryz.func177,Tryz.ntmps177
      go_wp2_with fail
      refine cI.out.mono ?_;rintro e w1 ⟨rfl,hb1⟩
      go_wp2_with fail
      go_ret;exact⟨by rw[HV.out];rfl,below_call hb0 hb1⟩
    | false=>
      have hcell:∀w1,Below (w.alloc (.cells #[.int .i64 k,.string t,.int .i64 b,.string sc,.string ho,.bool false,.int .i64 po,.string pa] 47)).heap.size (w.alloc (.cells #[.int .i64 k,.string t,.int .i64 b,.string sc,.string ho,.bool false,.int .i64 po,.string pa] 47)) w1->w1.cell? ⟨w.heap.size,4,none⟩=some (.string ho):=fun w1 hb1=>rowAt (alloc_row hb1) 4 (.string ho) rfl;have Hc:=Ih hcell;clear hcell;go_enter Tryz.func177,Tryz.ntmps177
      go_wp2_with fail
      refine cI.out.mono ?_;rintro e w1 ⟨rfl,hb1⟩;have c4:=Hc.out w1 hb1
      go_wp2_with fail
      go_ret;exact⟨by rw[HV.out];rfl,below_call hb0 hb1⟩
attribute [local go_sem ↓] Go.wp_at_zero Go.wp_at_succ
theorem Path1_any (x y:ByteArray) (hx:x.size<=1000000000) (hy:y.size<=1000000000) (w:World):Calls Tryz.prog 222 #[.string x,.string y] w (RBool (decide (Lz.decodeP x.data.toList=Lz.decodeP y.data.toList)) w):=by
 have cX:=Ih (fun W=>Decode_any x (by omega) W);have cY:=Ih (fun W=>Decode_any y (by omega) W);go_enter Tryz.func222,Tryz.ntmps222
 go_wp2_with fail
 refine(cX.out _).mono ?_;rintro e w1 ⟨u1,rfl,hu1,hb1⟩
 go_wp2_with fail
 refine(cY.out _).mono ?_;rintro e w2 ⟨u2,rfl,hu2,hb2⟩
 go_wp2_with fail
 go_ret;exact⟨by rw[<-hu1.out,<-hu2.out,<-same_text];rfl,below_call hb1 hb2⟩
theorem EqualFunc_any (v1 v2:Value) (l1 l2:List (List UInt8)) (w:World) (h1:PathAt w v1 l1) (h2:PathAt w v2 l2) (hL:l1.length<=1000000000) (hZ1:∀x,x∈l1->x.length<=1000000000) (hZ2:∀x,x∈l2->x.length<=1000000000):Calls Tryz.prog 221 #[v1,v2,.func (.func 222) #[] #[]] w (RBool (decide (l1.map Lz.decodeP=l2.map Lz.decodeP)) w):=by
 obtain⟨a1,c1,xs1,rfl,rfl,hx1⟩:=h1;obtain⟨a2,c2,xs2,rfl,rfl,hx2⟩:=h2;obtain⟨q,hq⟩:∃q,q=decide ((xs1.map (fun x:ByteArray=>x.data.toList)).map Lz.decodeP=(xs2.map (fun x:ByteArray=>x.data.toList)).map Lz.decodeP):=⟨_,rfl⟩;rw[<-hq];have Hq:=Ih hq;rw[List.length_map]at hL;have HZ1:=Ih hZ1;have HZ2:=Ih hZ2;clear hq hZ1 hZ2;by_cases hl:xs1.length=xs2.length
 ·have hlI:((xs1.length:Int) != (xs2.length:Int))=false:=by rw[hl];simp
  by_cases h0:xs1.length=0
  ·have e1:xs1=[]:=List.length_eq_zero_iff.1 h0;have e2:xs2=[]:=List.length_eq_zero_iff.1 (by omega);subst e1;subst e2;have HQ:Hid (q=true):=by show _=_;rw[Hq.out];rfl
   clear hl hx1 hx2 h0;go_enter Tryz.func221,Tryz.ntmps221
   go_wp2_with fail
   refine wp_loop_rounds 1 ?_;rw[rounds_succ]
   go_wp2_with fail
   go_ret;exact⟨by rw[HQ.out];rfl,Below.refl _ _⟩
  have Hl:=Ih hl;obtain⟨G1,o1,rfl,hG1,hj1⟩:=hx1 0 xs1[0] (List.getElem?_eq_getElem (by omega));obtain⟨G2,o2,rfl,hG2,hj2⟩:=hx2 0 xs2[0] (List.getElem?_eq_getElem (by omega));clear hj1 hj2
  have Hx1:Hid (∀(j:Nat) (x:ByteArray),xs1[j]? =some x->w.cell? ⟨G1,o1+j,none⟩=some (.string x)):=Ih (fun j x hj=>by
   obtain⟨G,o,e,_,hc⟩:=hx1 j x hj;injection e with e;injection e with e1 e2 _
   subst e1;subst e2;exact hc)
  have Hx2:Hid (∀(j:Nat) (x:ByteArray),xs2[j]? =some x->w.cell? ⟨G2,o2+j,none⟩=some (.string x)):=Ih (fun j x hj=>by
   obtain⟨G,o,e,_,hc⟩:=hx2 j x hj;injection e with e;injection e with e1 e2 _
   subst e1;subst e2;exact hc)
  clear hl hx1 hx2;go_enter Tryz.func221,Tryz.ntmps221
  go_wp2_with fail
  go_loopw [17] (fun k wr=>∃i:Nat,k=.int .i64 i/\i<=xs1.length/\Hid (((xs1.map (fun x:ByteArray=>x.data.toList)).map Lz.decodeP).take i=((xs2.map (fun x:ByteArray=>x.data.toList)).map Lz.decodeP).take i)/\Below w.heap.size w wr) (fun k _=>xs1.length-(intOf k).toNat)
  case atStart=>exact⟨0,rfl,Nat.zero_le _,Ih (by simp),Below.refl _ _⟩
  case round=>
   obtain⟨i,rfl,hi,hT,hbw⟩:=hrel;by_cases hlt:i<xs1.length
   ·have hltI:(i:Int)<(xs1.length:Int):=by omega
    have hlt2:i<xs2.length:=by rw[<-Hl.out];exact hlt
    have hltI2:(i:Int)<(xs2.length:Int):=by omega
    have hi0:(0:Int)<=(i:Int):=by omega
    obtain⟨x,hx⟩:∃x,x=xs1[i]:=⟨_,rfl⟩;obtain⟨y,hy⟩:∃y,y=xs2[i]:=⟨_,rfl⟩;have hxg:xs1[i]? =some x:=by rw[List.getElem?_eq_getElem hlt,hx]
    have hyg:xs2[i]? =some y:=by rw[List.getElem?_eq_getElem hlt2,hy]
    have hc1:=Hx1.out i x hxg;have hc2:=Hx2.out i y hyg;have d1:wr.cell? ⟨G1,o1+i,none⟩=some (.string x):=by rw[hbw.cell (p:=⟨G1,o1+i,none⟩) hG1];exact hc1
    have d2:wr.cell? ⟨G2,o2+i,none⟩=some (.string y):=by rw[hbw.cell (p:=⟨G2,o2+i,none⟩) hG2];exact hc2
    have hstep:((xs1.map (fun x:ByteArray=>x.data.toList)).map Lz.decodeP).take (i+1)=((xs1.map (fun x:ByteArray=>x.data.toList)).map Lz.decodeP).take i++[Lz.decodeP x.data.toList]/\((xs2.map (fun x:ByteArray=>x.data.toList)).map Lz.decodeP).take (i+1)=((xs2.map (fun x:ByteArray=>x.data.toList)).map Lz.decodeP).take i++[Lz.decodeP y.data.toList]:=by
     constructor
     ·rw[List.take_succ_eq_append_getElem (by simpa using hlt)];simp[hx]
     ·rw[List.take_succ_eq_append_getElem (by simpa using hlt2)];simp[hy]
    have hxz:x.size<=1000000000:=by rw[<-len_of_size];exact HZ1.out _ (List.mem_map.2 ⟨x,List.mem_of_getElem? hxg,rfl⟩)
    have hyz:y.size<=1000000000:=by rw[<-len_of_size];exact HZ2.out _ (List.mem_map.2 ⟨y,List.mem_of_getElem? hyg,rfl⟩)
    have cP:=Ih (Path1_any x y hxz hyz wr);by_cases he:Lz.decodeP x.data.toList=Lz.decodeP y.data.toList
    ·rw[decide_eq_true he]at cP;have hT2:Hid (((xs1.map (fun x:ByteArray=>x.data.toList)).map Lz.decodeP).take (i+1)=((xs2.map (fun x:ByteArray=>x.data.toList)).map Lz.decodeP).take (i+1)):=by show _=_;rw[hstep.1,hstep.2,hT.out,he]
     clear hx hy hxg hyg hc1 hc2 he hstep hT
     go_wp2_with fail
     refine cP.out.mono ?_;rintro e w5 ⟨rfl,hb5⟩;have hbq:=below_call hbw hb5
     go_wp2_with fail
     go_roundw
     case rel=>exact⟨i+1,by go_num,by omega,hT2,hbq⟩
     case measure=>simp[intOf];omega
    ·rw[decide_eq_false he]at cP
     have HQ:Hid (q=false):=by
      show _=_;rw[Hq.out];refine decide_eq_false fun e=>he ?_;have h1:=congrArg (List.take (i+1)) e;rw[hstep.1,hstep.2,hT.out]at h1;simpa using List.append_cancel_left h1
     clear hx hy hxg hyg hc1 hc2 he hstep hT
     go_wp2_with fail
     refine cP.out.mono ?_;rintro e w5 ⟨rfl,hb5⟩;have hbq:=below_call hbw hb5
     go_wp2_with fail
     go_ret;exact⟨by rw[HQ.out];rfl,hbq⟩
   ·have hltI:¬(i:Int)<(xs1.length:Int):=by omega
    have HQ:Hid (q=true):=by
     show _=_;rw[Hq.out];refine decide_eq_true ?_;have h1:=hT.out;rw[List.take_of_length_le (by simp;omega),List.take_of_length_le (by have:=Hl.out;simp;omega)]at h1;exact h1
    clear hT
    go_wp2_with fail
    go_ret;exact⟨by rw[HQ.out];rfl,hbw⟩
 ·have hlI:((xs1.length:Int) != (xs2.length:Int))=true:=by simp;omega
  have HQ:Hid (q=false):=by
   show _=_;rw[Hq.out];refine decide_eq_false fun e=>hl ?_;have:=congrArg List.length e;simpa using this
  clear hl hx1 hx2;go_enter Tryz.func221,Tryz.ntmps221
  go_wp2_with fail
  go_ret;exact⟨by rw[HQ.out];rfl,Below.refl _ _⟩
theorem pathAt_row {w:World} {B:Nat} {xs:List ByteArray} {fr:Nat×Nat} (h:w.heap[B]? =some (.cells (xs.map Value.string).toArray 9 fr)) (n c:Nat) (hn:n<=xs.length):PathAt w (.slice (some ⟨B,0,none⟩) n c) ((xs.map (fun x:ByteArray=>x.data.toList)).take n):=by
 refine⟨some ⟨B,0,none⟩,c,xs.take n,by rw[List.length_take,Nat.min_eq_left hn],by rw[List.map_take],fun j x hj=>⟨B,0,rfl,row_lt h,?_⟩⟩
 have hj2:xs[j]? =some x:=by
  rw[List.getElem?_take]at hj;split at hj
  ·exact hj
  ·cases hj
 have:=rowAt h j (.string x) (by simp[hj2]);rw[Nat.zero_add];exact this
theorem PathM_any (p u:ByteArray) (w:World) (hE:EnvH w) (hp:p.size<=1000000) (hu:u.size<=1000000):Calls Tryz.prog 179 #[.string p,.string u] w (RBool (Lz.pathM p.data.toList u.data.toList) w):=by
 obtain⟨R,hR⟩:∃R,R=Lz.pathM p.data.toList u.data.toList:=⟨_,rfl⟩;rw[<-hR];obtain⟨q,hq⟩:∃q,q=decide (p.data.toList=[]\/(p.data.toList=[47]/\u.data.toList=[])):=⟨_,rfl⟩;obtain⟨q2,hq2⟩:∃q2,q2=Lib.hasSuffix p.data.toList [47]:=⟨_,rfl⟩;have HV1:Hid (q=true->R=true):=Ih (fun h=>by rw[hR];unfold Lz.pathM;rw[if_pos (of_decide_eq_true (hq▸h))])
 have HV2:Hid (q=false->q2=true->(Lz.splitC 47 p.data.toList).length<=(Lz.splitC 47 u.data.toList).length->R=decide ((Lz.splitC 47 p.data.toList).dropLast.map Lz.decodeP=((Lz.splitC 47 u.data.toList).take ((Lz.splitC 47 p.data.toList).length-1)).map Lz.decodeP)):=Ih (fun h h2 h3=>by
  rw[hR];unfold Lz.pathM;rw[if_neg (of_decide_eq_false (hq▸h)),if_pos ⟨hq2▸h2,h3⟩,Bool.eq_iff_iff];simp)
 have HV3:Hid (q=false->¬(q2=true/\(Lz.splitC 47 p.data.toList).length<=(Lz.splitC 47 u.data.toList).length)->R=decide ((Lz.splitC 47 p.data.toList).map Lz.decodeP=(Lz.splitC 47 u.data.toList).map Lz.decodeP)):=Ih (fun h h2=>by
  rw[hR];unfold Lz.pathM;rw[if_neg (of_decide_eq_false (hq▸h)),if_neg (hq2▸h2),Bool.eq_iff_iff];simp)
 have cS:=Ih (Split_h p 47 (by omega) w hE);have cT:=Ih (fun W hW=>Split_h u 47 (by omega) W hW)
 have cF:Hid (∀W,Calls Tryz.prog 218 #[.string p,.string ⟨#[47]⟩] W fun e w'=>e=.returned (.bool q2)/\W=w'):=Ih (fun W=>
  (Tryz.strings_HasSuffix p ⟨#[47]⟩ W (by omega)).mono fun e w' ⟨h1,h2⟩=>⟨by rw[h1,hq2],h2.symm⟩)
 have HE:=Ih hE;have Hq:=Ih hq;clear hR hq hq2 hE;go_enter Tryz.func179,Tryz.ntmps179
 go_upto_region 1 with fail
 go_cut [16] (fun s wx=>s=.bool q/\w=wx)
 case first=>
  by_cases h0:p.size=0
  ·have e1:p.toList.isEmpty=true:=isEmpty_of_size h0;have HQ:Hid (q=true):=by show _=_;rw[Hq.out];exact decide_eq_true (Or.inl (List.length_eq_zero_iff.1 (by rw[len_of_size];exact h0)))
   clear h0
   go_wp2_with fail
   go_meet;exact⟨by rw[HQ.out],rfl⟩
  ·have e1:p.toList.isEmpty=false:=isEmpty_of_pos (by omega);have e0:¬p.data.toList=[]:=fun h=>h0 (by rw[<-len_of_size,h];rfl);by_cases h1:p.data.toList=[47]
   ·have g1:=text_yes h1;by_cases h2:u.size=0
    ·have e2:u.toList.isEmpty=true:=isEmpty_of_size h2;have HQ:Hid (q=true):=by show _=_;rw[Hq.out];exact decide_eq_true (Or.inr ⟨h1,List.length_eq_zero_iff.1 (by rw[len_of_size];exact h2)⟩)
     clear h0 h1 h2 e0
     go_wp2_with fail
     go_meet;exact⟨by rw[HQ.out],rfl⟩
    ·have e2:u.toList.isEmpty=false:=isEmpty_of_pos (by omega);have HQ:Hid (q=false):=by show _=_;rw[Hq.out];exact decide_eq_false (fun h=>h.elim e0 (fun h=>h2 (by rw[<-len_of_size,h.2];rfl)))
     clear h0 h1 h2 e0
     go_wp2_with fail
     go_meet;exact⟨by rw[HQ.out],rfl⟩
   ·have g1:=text_no h1;have HQ:Hid (q=false):=by show _=_;rw[Hq.out];exact decide_eq_false (fun h=>h.elim e0 (fun h=>h1 h.1))
    clear h0 h1 e0
    go_wp2_with fail
    go_meet;exact⟨by rw[HQ.out],rfl⟩
 case rest=>
  obtain⟨rfl,rfl⟩:=hcut;cases q with
  | true=>
    go_wp2_with fail
    go_ret;exact⟨by rw[HV1.out (by simp)];rfl,Below.refl _ _⟩
  | false=>
    go_wp2_with fail
    refine cS.out.mono ?_;rintro e w1 ⟨xs,rfl,hxs,hw1⟩;have hb1:Below w.heap.size w w1:=by rw[hw1.out];exact(Below.refl _ w).alloc (Nat.le_refl _) _
    have hr1:w1.heap[w.heap.size]? =some (.cells (xs.map Value.string).toArray 9 (0,0)):=by rw[hw1.out];exact heap_new _ _
    have hE1:=HE.out.below hb1;clear hw1
    go_wp2_with fail
    refine(cT.out _ hE1).mono ?_;rintro e w2 ⟨ys,rfl,hys,hw2⟩;have hb2:Below w1.heap.size w1 w2:=by rw[hw2.out];exact(Below.refl _ w1).alloc (Nat.le_refl _) _
    have hr2:w2.heap[w1.heap.size]? =some (.cells (ys.map Value.string).toArray 9 (0,0)):=by rw[hw2.out];exact heap_new _ _
    have hr3:w2.heap[w.heap.size]? =some (.cells (xs.map Value.string).toArray 9 (0,0)):=(hb2.block _ (row_lt hr1)).trans hr1;have hbw:Below w.heap.size w w2:=below_call hb1 hb2;have hxl:xs.length=(Lz.splitC 47 p.data.toList).length:=by rw[<-hxs.out,List.length_map]
    have hyl:ys.length=(Lz.splitC 47 u.data.toList).length:=by rw[<-hys.out,List.length_map]
    have hxn:xs.length<=1000001:=by
     have:=Lz.splitC_len 47 p.data.toList;rw[hxl];rw[len_of_size]at this;omega
    have hx1:1<=xs.length:=by
     have:=Lz.splitC_ne 47 p.data.toList;rw[hxl];cases h:Lz.splitC 47 p.data.toList with
     | nil=>exact absurd h this
     | cons _ _=>simp
    have hZ1:∀x,x∈Lz.splitC 47 p.data.toList->x.length<=1000000000:=fun x hx=>by
     rw[<-hxs.out]at hx;obtain⟨y,hy,rfl⟩:=List.mem_map.1 hx;have:=piece_size hxs.out hy;rw[len_of_size];omega
    have hZ2:∀x,x∈Lz.splitC 47 u.data.toList->x.length<=1000000000:=fun x hx=>by
     rw[<-hys.out]at hx;obtain⟨y,hy,rfl⟩:=List.mem_map.1 hx;have:=piece_size hys.out hy;rw[len_of_size];omega
    have PX:Hid (∀n c,n<=xs.length->PathAt w2 (.slice (some ⟨w.heap.size,0,none⟩) n c) ((Lz.splitC 47 p.data.toList).take n)):=Ih (fun n c hn=>by rw[<-hxs.out];exact pathAt_row hr3 n c hn);have PY:Hid (∀n c,n<=ys.length->PathAt w2 (.slice (some ⟨w1.heap.size,0,none⟩) n c) ((Lz.splitC 47 u.data.toList).take n)):=Ih (fun n c hn=>by rw[<-hys.out];exact pathAt_row hr2 n c hn);have HZ1:=Ih hZ1;have HZ2:=Ih hZ2;have HXL:=Ih hxl;have HYL:=Ih hyl;obtain⟨n,hn⟩:∃n,n=xs.length:=⟨_,rfl⟩;obtain⟨m,hm⟩:∃m,m=ys.length:=⟨_,rfl⟩;rw[<-hn]at hxn hx1;have HN:=Ih hn;have HM:=Ih hm;clear hw2 hr1 hr2 hr3 hxs hys hb1 hb2 hxl hyl hZ1 hZ2 cS;rw[<-hn,<-hm];clear hn hm;obtain⟨q3,hq3⟩:∃q3,q3=(q2&&decide (n<=m)):=⟨_,rfl⟩;have HQ3:=Ih hq3;clear hq3
    go_upto_region 4 with fail
    go_cut [29] (fun s wx=>s=.bool q3/\w2=wx)
    case first=>
     cases q2 with
     | false=>
       have HQ:Hid (q3=false):=by show _=_;rw[HQ3.out];rfl
       go_wp2_with fail
       refine(cF.out _).mono ?_;rintro e w5 ⟨rfl,rfl⟩
       go_wp2_with fail
       go_meet;exact⟨by rw[HQ.out],rfl⟩
     | true=>
       by_cases hnm:n<=m
       ·have HQ:Hid (q3=true):=by show _=_;rw[HQ3.out,decide_eq_true hnm];rfl
        have hI:(n:Int)<=(m:Int):=by omega
        go_wp2_with fail
        refine(cF.out _).mono ?_;rintro e w5 ⟨rfl,rfl⟩
        go_wp2_with fail
        go_meet;exact⟨by rw[HQ.out],rfl⟩
       ·have HQ:Hid (q3=false):=by show _=_;rw[HQ3.out,decide_eq_false hnm];rfl
        have hI:¬(n:Int)<=(m:Int):=by omega
        go_wp2_with fail
        refine(cF.out _).mono ?_;rintro e w5 ⟨rfl,rfl⟩
        go_wp2_with fail
        go_meet;exact⟨by rw[HQ.out],rfl⟩
    case rest=>
     obtain⟨rfl,rfl⟩:=hcut;cases q3 with
     | true=>
       have h3:=HQ3.out;have hq2:q2=true:=by cases q2;simp at h3;rfl
       have hnm:n<=m:=by rw[hq2]at h3;simpa using h3.symm
       obtain⟨k,hk⟩:∃k,k=n-1:=⟨_,rfl⟩;have hk1:(n:Int)-1=(k:Int):=by omega
       have hk0:(0:Int)<=(k:Int):=by omega
       have hk2:(k:Int)<=(n:Int):=by omega
       have hk3:(k:Int)<=(m:Int):=by omega
       have HV:Hid (R=decide (((Lz.splitC 47 p.data.toList).take k).map Lz.decodeP=((Lz.splitC 47 u.data.toList).take k).map Lz.decodeP)):=by
        show _=_;have:=HV2.out (by simp) hq2 (by rw[<-HXL.out,<-HYL.out,<-HN.out,<-HM.out];exact hnm);rw[List.dropLast_eq_take,<-HXL.out,<-HN.out,<-hk]at this;exact this
       have cE:=Ih (EqualFunc_any _ _ _ _ w2 (PX.out k n (by have:=HN.out;omega)) (PY.out k m (by have:=HM.out;omega)) (by rw[List.length_take];omega) (fun x hx=>HZ1.out x (List.mem_of_mem_take hx)) (fun x hx=>HZ2.out x (List.mem_of_mem_take hx)));clear h3 hq2 hnm hk
       go_wp2_with fail
       refine cE.out.mono ?_;rintro e w5 ⟨rfl,hb5⟩
       go_wp2_with fail
       go_ret;exact⟨by rw[HV.out,List.map_take,List.map_take];rfl,below_call hbw hb5⟩
     | false=>
       have HV:Hid (R=decide ((Lz.splitC 47 p.data.toList).map Lz.decodeP=(Lz.splitC 47 u.data.toList).map Lz.decodeP)):=Ih (HV3.out (by simp) (fun h=>by
        have h3:=HQ3.out;rw[h.1,decide_eq_true (by have:=h.2;rw[<-HXL.out,<-HYL.out,<-HN.out,<-HM.out]at this;exact this)]at h3;cases h3))
       have eX:=PX.out n n (by have:=HN.out;omega);have eY:=PY.out m m (by have:=HM.out;omega);rw[List.take_of_length_le (by rw[HN.out,HXL.out];exact Nat.le_refl _)]at eX;rw[List.take_of_length_le (by rw[HM.out,HYL.out];exact Nat.le_refl _)]at eY;have cE:=Ih (EqualFunc_any _ _ _ _ w2 eX eY (by rw[<-HXL.out,<-HN.out];omega) HZ1.out HZ2.out);clear eX eY
       go_wp2_with fail
       refine cE.out.mono ?_;rintro e w5 ⟨rfl,hb5⟩
       go_wp2_with fail
       go_ret;exact⟨by rw[HV.out];rfl,below_call hbw hb5⟩
end Go.Proofs.YtjhccadmmnjpeaaGreatDoor
