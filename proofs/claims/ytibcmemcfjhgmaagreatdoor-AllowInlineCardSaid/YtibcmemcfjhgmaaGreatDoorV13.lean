/-
  lazaretref04: times, digit, above.
-/
import Derived.Test.YtibcmemcfjhgmaaGreatDoorV10
import Derived.Test.YtibcmemcfjhgmaaGreatDoorV06
import Derived.Deep.DrawnRows
set_option maxHeartbeats 4000000
set_option maxRecDepth 100000
namespace Go.Proofs.YtibcmemcfjhgmaaGreatDoor
open Go.RowKit
theorem bX {w:World} {R:Nat} {cs:Array Value} {t:TypeId} (h:w.heap[R]? =some (.cells cs t (0,0))) (k:Nat):w.frozen? ⟨R,k,none⟩=false:=by simp[World.frozen?,h]
theorem jc {w:World} {R:Nat} {cs:Array Value} {t:TypeId} {fr:Nat×Nat} (h:w.heap[R]? =some (.cells cs t fr)) (k:Nat) (v:Value) {cs':Array Value} (hc:cs.setIfInBounds k v=cs'):(w.setCell ⟨R,k,none⟩ v).heap[R]? =some (.cells cs' t fr):=by
 rw[setCell_eq_setRow w R k cs _ _ v h,<-hc];exact setRow_heap _ _ _ _ _ _ h
theorem kB {w:World} {p:Addr} {k:Nat} (h:k≠p.block) (v:Value):(w.setCell p v).heap[k]? =w.heap[k]? :=Below.heap_setCell w p v k h
theorem df (w:World) (p:Addr) (v:Value):w.grownBy (w.setCell p v) (some p.block):=
 ⟨rfl,rfl,rfl,by simp,fun k _ hk=>kB (fun e=>hk (by rw[e])) v⟩
theorem Jw (a:Addr) (j:Nat) (hs:a.spot=none):(a.add j).block=a.block:=by
 obtain⟨G,off,Oy⟩:=a;obtain rfl:Oy=none:=hs;unfold Addr.add;split<;>rfl
theorem nK:(Tryz.prog.info? 9).map (fun i=>(i.zero,i.size,i.bytes))=some (some (.string ⟨#[]⟩),1,16):=by kernel_rfl
def bG (w:World) (B:Nat) (v:Value) (xs:List ByteArray):Prop:=
 w.ownsRow B 9 1 v xs.length (xs.map Value.string)\/
 ∃a:Addr,v=.slice (some a) xs.length xs.length/\a.spot=none/\(∀j u,(xs.map Value.string)[j]? =some u->w.cell? (a.add j)=some u)/\(xs≠[]->∃dx fz,w.heap[a.block]? =some (.cells dx 9 fz))
theorem bG.nil (w:World) (B:Nat):bG w B (.slice none 0 0) []:=.inl (World.ownsRow_nil w B _ _)
theorem bG.kept {w w':World} {B:Nat} {v:Value} {xs:List ByteArray} {row:Option Nat} (h:bG w B v xs) (hg:w.grownBy w' row)
  (hr:∀k,row=some k->∃cs t fr,w.heap[k]? =some (.cells cs t fr)/\t≠9):bG w' B v xs:=by
 rcases h with h|⟨a,rfl,hs,hc,hb⟩
 ·refine .inl (h.kept hg ?_);rcases h.2 with⟨rfl,_⟩|⟨g,cap,dx,rfl,_,hgb,_⟩
  ·exact .inl rfl
  ·refine .inr fun e=>?_;obtain⟨cs,t,fr,h1,h2⟩:=hr g e.symm;rw[hgb]at h1;injection h1 with h1
   injection h1 with _ h3 _
   exact h2 h3.symm
 ·by_cases hx:xs=[]
  ·subst hx;exact .inr ⟨a,rfl,hs,fun j u hj=>by simp at hj,fun h=>absurd rfl h⟩
  ·obtain⟨dx,fz,WB⟩:=hb hx
   have du:some a.block≠row:=fun e=>by
    obtain⟨cs,t,fr,h1,h2⟩:=hr a.block e.symm;rw[WB]at h1;injection h1 with h1
    injection h1 with _ h3 _
    exact h2 h3.symm
   have hk:=hg.block a.block (aZ WB) du;exact .inr ⟨a,rfl,hs,fun j u hj=>(World.cell?_of_block (a:=a.add j) (by rw[Jw a j hs];exact hk)).trans (hc j u hj),fun _=>⟨dx,fz,by rw[hk];exact WB⟩⟩
theorem Cj {w w':World} (hb:Below w.heap.size w w'):w.grownBy w' none:=⟨hb.os,hb.tape,hb.output,hb.size,fun k hk _=>hb.block k hk⟩
theorem bG.below {w w':World} {B:Nat} {v:Value} {xs:List ByteArray} (h:bG w B v xs) (hb:Below w.heap.size w w'):bG w' B v xs:=
 h.kept (Cj hb) (fun k hk=>by cases hk)
theorem bG.setCell {w:World} {B M:Nat} {v:Value} {xs:List ByteArray} {cs:Array Value} {t:TypeId} {fr:Nat×Nat} (h:bG w B v xs) (hM:w.heap[M]? =some (.cells cs t fr)) (ht:t≠9) (k:Nat) (u:Value):bG (w.setCell ⟨M,k,none⟩ u) B v xs:=
 h.kept (df w ⟨M,k,none⟩ u) (fun k hk=>by injection hk with hk;subst hk;exact⟨cs,t,fr,hM,ht⟩)
theorem bG.form {w:World} {B:Nat} {v:Value} {xs:List ByteArray} (h:bG w B v xs):∃a c,v=.slice a xs.length c/\xs.length<=c/\∀(j:Nat) (x:ByteArray),xs[j]? =some x->∃G off,a=some ⟨G,off,none⟩/\G<w.heap.size/\w.cell? ⟨G,off+j,none⟩=some (.string x):=by
 rcases h with h|⟨a,rfl,hs,hc,hb⟩
 ·rcases h.2 with⟨rfl,h0⟩|⟨g,cap,dx,rfl,hgb,hg,hn,tj,iF,gu⟩
  ·refine⟨none,0,by rw[h0],by omega,fun j x hj=>?_⟩;rw[List.eq_nil_of_length_eq_zero h0]at hj
   simp at hj
  ·refine⟨_,cap,rfl,hn,fun j x hj=>⟨g,0,rfl,aZ hg,?_⟩⟩;have:=h.cells (g:=g) rfl j (.string x) (by rw[List.getElem?_map,hj];rfl);rw[bD]at this;rw[Nat.zero_add];exact this
 ·refine⟨some a,xs.length,rfl,Nat.le_refl _,fun j x hj=>?_⟩;obtain⟨G,off,Oy⟩:=a;obtain rfl:Oy=none:=hs;have:=hc j (.string x) (by rw[List.getElem?_map,hj];rfl);rw[show(⟨G,off,none⟩:Addr).add j=⟨G,off+j,none⟩ by simp[Addr.add]]at this;exact⟨G,off,rfl,World.block_lt_of_cell? _ _ this,this⟩
theorem bG.pop {w:World} {B:Nat} {a:Option Addr} {n c:Nat} {xs:List ByteArray} (h:bG w B (.slice a n c) xs) (hn:1<=xs.length):bG w B (.slice a (n-1) (n-1)) xs.dropLast:=by
 have hl:xs.dropLast.length=n-1:=by
  obtain⟨a',c',e,_⟩:=h.form;injection e with _ e2 _
  rw[List.length_dropLast,e2]
 have aam:∀(j:Nat) (u:Value),(xs.dropLast.map Value.string)[j]? =some u->(xs.map Value.string)[j]? =some u:=by
  intro j u hj;rw[List.getElem?_map,Option.map_eq_some_iff]at hj;obtain⟨x,hx,rfl⟩:=hj;have mq:=(List.getElem?_eq_some_iff.1 hx).1;rw[List.length_dropLast]at mq;rw[List.getElem?_map,<-List.getElem?_take_of_lt (show j<xs.length-1 from mq),<-List.dropLast_eq_take,hx];rfl
 rcases h with h|⟨p,e,hs,hc,hb⟩
 ·rcases h.2 with⟨e,h0⟩|⟨g,cap,dx,e,hgb,hg,Uf,tj,iF,gu⟩
  ·omega
  ·injection e with e1 e2 e3
   subst e1;exact .inr ⟨⟨g,0,none⟩,by rw[hl],rfl,fun j u hj=>h.cells (g:=g) (by rw[Value.ownBlock]) j u (aam j u hj),fun _=>⟨dx,(0,0),hg⟩⟩
 ·injection e with e1 e2 e3
  subst e1;exact .inr ⟨p,by rw[hl],hs,fun j u hj=>hc j u (aam j u hj),fun _=>hb (fun e=>by rw[e]at hn;simp at hn)⟩
section
variable {P:Program} (w:World)
theorem s7 (base:Nat) (t ty e:TypeId) (i:TypeInfo) (z:Value) (bytes:Nat) (ht:P.underlying t=some (.slice e)) (hi:P.info? e=some i) (hz:i.zero=some z)
  (Tx:i.size=1) (Xk:i.bytes=bytes) (WN:z.cells.size=1)
  (p:Addr) (n:Nat) (xs:List Value) (AR:xs.length=n) (DO:∀j u,xs[j]? =some u->w.cell? (p.add j)=some u)
  (a:Addr) (c:Nat) (x:Value) (hx:w.cell? (a.add 0)=some x)
  (KQ:n+1<=maxLen) (Xn:(n+1)*bytes<=140737488355328) (fk:base<=w.heap.size):
  ∃v' w',(Builtin.append_ #[t,t] ty #[.slice (some p) n n,.slice (some a) 1 c]).run P w=.ok v' w'/\w'.ownsRow base e 1 v' (n+1) (xs++[x])/\w.grownBy w' none:=by
 have ab9:n+1<=9223372036854775807:=by simp only[maxLen]at KQ;omega
 have hr:=run_append_grow (P:=P) w t ty e i z ht hi hz p n n xs (by rw[Tx,Nat.mul_one];exact AR) DO a 1 c [x] (by rw[Tx];rfl) (fun j u hj=>by
  have:j<1:=by simpa using(List.getElem?_eq_some_iff.1 hj).1
  obtain rfl:j=0:=by omega
  obtain rfl:x=u:=by simpa using hj
  exact hx) (by omega) (by omega) (growslice_fits (by omega) (by rw[Xk];exact Xn))
 refine⟨_,_,hr,⟨by simp[AR],.inr ⟨w.heap.size,_,_,rfl,fk,heap_alloc_new w.drew _,grownCap_ge _ _ _ _,grownCap_le_maxLen w (n+1) n e KQ,?_,?_⟩⟩,⟨rfl,rfl,rfl,by simp,fun k hk _=>Below.heap_alloc w.drew _ k hk⟩⟩
 ·have AS:=grownCap_ge w (n+1) n e;simp only[Array.size_append,List.size_toArray,size_zeroCells,WN,AR,List.length_singleton];omega
 ·simp only[Array.toList_append,List.append_assoc];rw[<-List.append_assoc,show(n+1)*1=(xs++[x]).length by simp[AR]];exact List.take_left
end
theorem sY (w:World) (base:Nat) (ty:TypeId) (v:Value) (xs:List ByteArray) (ai:bG w base v xs) (a:Addr) (c:Nat) (p:ByteArray) (hp:w.cell? (a.add 0)=some (.string p))
  (aO:xs.length<=1000000000) (fk:base<=w.heap.size):
  ∃v' w' row,(Builtin.append_ #[22,22] ty #[v,.slice (some a) 1 c]).run Tryz.prog w=.ok v' w'/\bG w' base v' (xs++[p])/\w.grownBy w' row/\(∀k,row=some k->base<=k/\∃dx fr,w.heap[k]? =some (.cells dx 9 fr)):=by
 obtain⟨i0,hi,eZ,d9,eo⟩:=info_parts nK;have hm:(xs++[p]).map Value.string=xs.map Value.string++[.string p]:=by simp
 rcases ai with h|⟨q,rfl,hs,hc,hb⟩
 ·have DN:∀j u,[Value.string p][j]? =some u->w.cell? (a.add j)=some u:=fun j u hj=>by
   have:j<1:=by simpa using(List.getElem?_eq_some_iff.1 hj).1
   obtain rfl:j=0:=by omega
   obtain rfl:Value.string p=u:=by simpa using hj
   exact hp
  obtain⟨v',w',hr,h2,h3,_⟩:=run_append_own (P:=Tryz.prog) w base 22 ty 9 i0 (.string ⟨#[]⟩) 1 16 Tryz.underlying22 hi eZ d9 eo rfl (by decide) v xs.length (xs.map Value.string) h a 1 c [.string p] rfl DN (by simp[Value.oneCell']) (by unfold maxLen;omega) (by omega) fk;refine⟨v',w',v.ownBlock,hr,.inl ?_,h3,fun k hk=>?_⟩
  ·rw[hm,List.length_append];exact h2
  ·rcases h.2 with⟨rfl,_⟩|⟨g,cap,dx,rfl,hgb,hg,_⟩
   ·cases hk
   ·injection hk with hk;subst hk;exact⟨hgb,dx,_,hg⟩
 ·obtain⟨v',w',hr,h2,h3⟩:=s7 (P:=Tryz.prog) w base 22 ty 9 i0 (.string ⟨#[]⟩) 16 Tryz.underlying22 hi eZ d9 eo rfl q xs.length (xs.map Value.string) (by simp) hc a c (.string p) hp (by unfold maxLen;omega) (by omega) fk;refine⟨v',w',none,hr,.inl ?_,h3,fun k hk=>by cases hk⟩;rw[hm,List.length_append];exact h2
def IH (B:Nat) (w:World) (row:Option Nat):Prop:=∀k,row=some k->B<=k/\∃dx fr,w.heap[k]? =some (.cells dx 9 fr)
theorem dq (w:World) {ops:Array Oper} {rest:List Oper} {o:Oper} {a:Act} {Q:Exit->Act->World->Prop} (Le:o.guard=none) (s x:Operand)
  (ho:o.op=.call {callee:=.builtin .append,args:= #[s,x],argTypes:= #[22,22]})
  (base:Nat) (v:Value) (xs:List ByteArray) (hs:a.eval s=v) (ai:bG w base v xs) (ad:Addr) (c:Nat) (p:ByteArray) (hx:a.eval x=.slice (some ad) 1 c) (hp:w.cell? (ad.add 0)=some (.string p))
  (aO:xs.length<=1000000000) (fk:base<=w.heap.size)
  (h:∀g n' c' w' row,bG w' base (.slice (some g) n' c') (xs++[p])->w.grownBy w' row->IH base w row->wpList Tryz.prog ops Q rest (a.put o.dst (.slice (some g) n' c')) w'):
  wpList Tryz.prog ops Q (o::rest) a w:=by
 refine wpList_plain Le fun K hK=>?_;obtain⟨v',w',row,hr,h2,h3,h4⟩:=sY w base o.type v xs ai ad c p hp aO fk;obtain⟨g,c',rfl,_,aW⟩:=h2.form;obtain⟨G,off,rfl,_,_⟩:=aW xs.length p (by simp);unfold Oper.wp execOp;simp only[ho,resolve,invoke,builtin,Sem.run_bind,Sem.run_pure,Result.andThen_ok,List.map_toArray,List.map_cons,List.map_nil,hs,hx,hr];exact hK _ _ (h _ _ _ w' row h2 h3 h4)
structure MkV where
 sch:ByteArray
 usr:ByteArray
 pas:ByteArray
 hh:Bool
 hst:ByteArray
 prt:Int
 opq:Bool
 pv:Value
 xs:List ByteArray
 hq:Bool
 hf:Bool
 qry:ByteArray
 frg:ByteArray
def MkV.url (x:MkV):Lz.au:=⟨x.sch.data.toList,x.usr.data.toList,x.pas.data.toList,x.hh,x.hst.data.toList,x.prt,x.opq,x.xs.map (·.data.toList),x.hq,x.hf,x.qry.data.toList,x.frg.data.toList⟩
def dk (sp:Bool):ByteArray:=if sp then⟨#[47,92]⟩else⟨#[47]⟩
structure mQ (B M:Nat) (w:World) (x:MkV) (sp:Bool) (sl:ByteArray):Prop where
 row:w.heap[M]? =some (.cells #[.string x.sch,.string x.usr,.string x.pas,.bool x.hh,.string x.hst,.int .i64 x.prt,.bool x.opq,x.pv,.bool x.hq,.bool x.hf,.string x.qry,.string x.frg,.bool sp,.string sl] 96 (0,0))
 own:bG w B x.pv x.xs
 le:B<=M
def fQ (B M:Nat) (w:World) (u:Lz.au):Prop:=∃x,mQ B M w x (Lz.aj x.sch.data.toList) (dk (Lz.aj x.sch.data.toList))/\Hid (x.url=u)
theorem mQ.below {B M:Nat} {w w':World} {x:MkV} {sp:Bool} {sl:ByteArray} (h:mQ B M w x sp sl) (hb:Below w.heap.size w w'):mQ B M w' x sp sl:=
 ⟨by rw[hb.block M (aZ h.row)];exact h.row,h.own.below hb,h.le⟩
theorem fQ.below {B M:Nat} {w w':World} {u:Lz.au} (h:fQ B M w u) (hb:Below w.heap.size w w'):fQ B M w' u:=by
 obtain⟨x,hx,hu⟩:=h;exact⟨x,hx.below hb,hu⟩
theorem fQ.form {B M:Nat} {w:World} {u:Lz.au} (h:fQ B M w u):∃(sch usr pas:ByteArray) (hh:Bool) (hst:ByteArray) (prt:Int) (opq:Bool) (a:Option Addr) (c:Nat) (xs:List ByteArray) (hq hf:Bool) (qry frg:ByteArray),
  mQ B M w ⟨sch,usr,pas,hh,hst,prt,opq,.slice a xs.length c,xs,hq,hf,qry,frg⟩ (Lz.aj sch.data.toList) (dk (Lz.aj sch.data.toList))/\
  u=⟨sch.data.toList,usr.data.toList,pas.data.toList,hh,hst.data.toList,prt,opq,xs.map (fun x:ByteArray=>x.data.toList),hq,hf,qry.data.toList,frg.data.toList⟩/\xs.length<=c/\
  ∀(j:Nat) (x:ByteArray),xs[j]? =some x->∃G off,a=some ⟨G,off,none⟩/\G<w.heap.size/\w.cell? ⟨G,off+j,none⟩=some (.string x):=by
 obtain⟨⟨sch,usr,pas,hh,hst,prt,opq,pv,xs,hq,hf,qry,frg⟩,hm,hu⟩:=h;obtain⟨a,c,hpv,hc,aW⟩:=hm.own.form;have WQ:pv=.slice a xs.length c:=hpv;subst WQ;exact⟨sch,usr,pas,hh,hst,prt,opq,a,c,xs,hq,hf,qry,frg,hm,hu.out.symm,hc,aW⟩
def RMk (B M:Nat) (u:Lz.au) (w:World) (e:Ending) (w':World):Prop:=e=.returned (.tuple #[])/\Below B w w'/\fQ B M w' u
theorem tQ:96≠9:=by decide
theorem Af {B:Nat} {a w w':World} {row:Option Nat} (h:Below B a w) (hg:w.grownBy w' row) (hB:B<=w.heap.size) (hr:IH B w row):Below B a w':=
 h.grown hg hB fun k hk=>(hr k hk).1
theorem Ff {w w':World} {row:Option Nat} {B M:Nat} {cs:Array Value} (hM:w.heap[M]? =some (.cells cs 96 (0,0))) (hg:w.grownBy w' row) (hr:IH B w row):w'.heap[M]? =some (.cells cs 96 (0,0)):=by
 rw[hg.block M (aZ hM) (fun e=>?_)]
 ·exact hM
 ·obtain⟨_,dx,fr,h1⟩:=hr M e.symm;rw[hM]at h1;injection h1 with h1
  injection h1 with _ h2 _
  exact tQ h2
attribute [local go_sem ↓] Go.wp_at_zero Go.wp_at_succ
theorem G3:(Tryz.prog.info? 3).map (fun i=>(i.zero,i.size,i.bytes))=some (some (.int .i64 0),1,8):=by kernel_rfl
theorem Mx (m:Nat) (hm:m<=1048576) (w:World):(Instr.makeSlice 160 (.int .i64 (m:Int)) (.int .i64 (m:Int))).run Tryz.prog w=.ok (.slice (some ⟨w.heap.size,0,none⟩) m m) (w.alloc (.cells (Array.replicate m (.int .i64 0)) 3)):=by
 obtain⟨i0,hi,eZ,d9,eo⟩:=info_parts G3;have h:=run_makeSlice (P:=Tryz.prog) w 160 3 i0 (.int .i64 0) Tryz.underlying160 hi eZ .i64 .i64 (m:Int) (m:Int) (by omega) (Int.le_refl _) (by rw[d9];simp;omega) (by rw[eo];omega) (by omega);have e:madeCells #[Value.int .i64 0] m=Array.replicate m (Value.int .i64 0):=by rw[<-Array.toList_inj,toList_madeCells_one,Array.toList_replicate]
 rw[d9,Int.toNat_natCast,Nat.mul_one]at h;rw[<-e];exact h
def tg (l:List Nat):List Value:=l.map fun(d:Nat)=>Value.int .i64 (d:Int)
theorem lD {l:List Nat} {j:Nat} (h:j<l.length):(tg l).toArray[j]? =some (.int .i64 ((l.getD j 0:Nat):Int)):=by
 rw[List.getElem?_toArray,tg,List.getElem?_map,List.getElem?_eq_getElem h,List.getD_eq_getElem?_getD,List.getElem?_eq_getElem h];rfl
theorem Ob (l:List Nat) (j d:Nat):(tg l).toArray.setIfInBounds j (.int .i64 (d:Int))=(tg (l.set j d)).toArray:=by
 unfold tg;rw[List.setIfInBounds_toArray,List.map_set]
def ql (w:World) (v:Value) (l:List Nat):Prop:=
 ∃(a:Option Addr) (c:Nat),v=.slice a l.length c/\∀j,j<l.length->∃g off,a=some ⟨g,off,none⟩/\w.cell? ⟨g,off+j,none⟩=some (.int .i64 ((l.getD j 0:Nat):Int))
def eh (w:World) (g:Nat) (l:List Nat):Prop:=w.heap[g]? =some (.cells (tg l).toArray 3 (0,0))
theorem eh.at {w:World} {g:Nat} {l:List Nat} (h:eh w g l):ql w (.slice (some ⟨g,0,none⟩) l.length l.length) l:=
 ⟨some ⟨g,0,none⟩,l.length,rfl,fun j hj=>⟨g,0,rfl,by rw[Nat.zero_add];exact rowAt h j _ (lD hj)⟩⟩
theorem eh.set {w:World} {g:Nat} {l:List Nat} (h:eh w g l) (j d:Nat):eh (w.setCell ⟨g,j,none⟩ (.int .i64 (d:Int))) g (l.set j d):=by
 have:=cu h j (.int .i64 (d:Int));rw[Ob]at this;exact this
theorem eh.below {w w':World} {g:Nat} {l:List Nat} (h:eh w g l) (hb:Below w.heap.size w w'):eh w' g l:=(hb.block _ (aZ h)).trans h
def aaT (n V:Nat) (w:World) (e:Ending) (w':World):Prop:=
 ∃(g:Nat) (o:List Nat),e=.returned (.slice (some ⟨g,0,none⟩) n n)/\o.length=n/\Hid (Lz.jO o)/\Hid (Lz.bO o=V)/\eh w' g o/\Below w.heap.size w w'
theorem gz {B g:Nat} {a w:World} (h:Below B a w) {j:Nat} {v:Value} (hg:B<=g):Below B a (w.setCell ⟨g,j,none⟩ v):=by
 refine⟨h.os,h.tape,h.output,by simpa using h.size,fun k hk=>?_⟩;rw[Below.heap_setCell w ⟨g,j,none⟩ v k (by simp;omega)];exact h.block k hk
structure sU (a b:List Nat) (i k c:Nat) (o:List Nat):Prop where
 len:o.length=a.length+b.length
 digs:Lz.jO o
 zero:∀j,i+b.length<=j->o.getD j 0=0
 val:Lz.bO o+c*65536^(i+k)=Lz.bO (a.take i)*Lz.bO b+a.getD i 0*Lz.bO (b.take k)*65536^i
 carry:c<65536
theorem sU.step {a b:List Nat} {i k c:Nat} {o:List Nat} (h:sU a b i k c o) (da:Lz.jO a) (db:Lz.jO b) (hi:i<a.length) (hk:k<b.length):
  sU a b i (k+1) ((o.getD (i+k) 0+a.getD i 0*b.getD k 0+c) / 65536) (o.set (i+k) ((o.getD (i+k) 0+a.getD i 0*b.getD k 0+c)%65536)):=by
 have h1:=Lz.EZ (a:=a.getD i 0) (b:=b.getD k 0) (by rw[h.len];omega) h.val;refine⟨by rw[List.length_set,h.len],h.digs.set (Nat.mod_lt _ (by omega)),fun j hj=>?_,?_,?_⟩
 ·rw[List.getD_eq_getElem?_getD,List.getElem?_set_ne (by omega),<-List.getD_eq_getElem?_getD];exact h.zero j hj
 ·rw[<-Nat.add_assoc,h1,Lz.jW b k hk,Nat.mul_add,Nat.add_mul,Nat.add_assoc,Nat.pow_add];congr 2;rw[Nat.mul_comm (65536^i),Nat.mul_assoc,Nat.mul_assoc,Nat.mul_assoc]
 ·have h2:=h.digs.get (i+k);have h3:a.getD i 0*b.getD k 0<=65535*65535:=Nat.mul_le_mul (by have:=da.get i;omega) (by have:=db.get k;omega);have h4:=h.carry;generalize a.getD i 0*b.getD k 0=m at h3⊢;omega
theorem sU.last {a b:List Nat} {i c:Nat} {o:List Nat} (h:sU a b i b.length c o) (hi:i<a.length):sU a b (i+1) 0 0 (o.set (i+b.length) c):=by
 have h1:=Lz.DX (by rw[h.len];omega) (h.zero _ (Nat.le_refl _)) h.val;refine⟨by rw[List.length_set,h.len],h.digs.set h.carry,fun j hj=>?_,?_,by omega⟩
 ·rw[List.getD_eq_getElem?_getD,List.getElem?_set_ne (by omega),<-List.getD_eq_getElem?_getD];exact h.zero j (by omega)
 ·rw[h1,Lz.jW a i hi,List.take_of_length_le (Nat.le_refl _),Nat.add_mul]
  simp[Lz.bO,Nat.mul_comm,Nat.mul_left_comm]
theorem sU.start (a b:List Nat):sU a b 0 0 0 (List.replicate (a.length+b.length) 0):=
 ⟨List.length_replicate,fun d hd=>by rw[List.eq_of_mem_replicate hd];omega,fun j hj=>by
  rw[List.getD_eq_getElem?_getD,List.getElem?_replicate];split<;>rfl,by rw[Lz.j5];simp[Lz.bO],by omega⟩
theorem yB (va vb:Value) (a b:List Nat) (w:World) (hA:ql w va a) (hB:ql w vb b) (da:Lz.jO a) (db:Lz.jO b) (hla:a.length<=1000) (hlb:b.length<=1000):Calls Tryz.prog 165 #[va,vb] w (aaT (a.length+b.length) (Lz.bO a*Lz.bO b) w):=by
 obtain⟨aa,ca,rfl,ha⟩:=hA;obtain⟨ab,cb,rfl,hb⟩:=hB;obtain⟨na,Ps⟩:∃na,na=a.length:=⟨_,rfl⟩;obtain⟨nb,Li⟩:∃nb,nb=b.length:=⟨_,rfl⟩;have nY:=Ih (Mx (a.length+b.length) (by omega));rw[<-Ps,<-Li]at nY⊢;rw[<-Ps]at hla;rw[<-Li]at hlb
 have pA:eh (w.alloc (.cells (Array.replicate (na+nb) (.int .i64 0)) 3)) w.heap.size (List.replicate (na+nb) 0):=by
  show _=_;rw[an];unfold tg;rw[List.map_replicate];simp
 have pD:Below w.heap.size w (w.alloc (.cells (Array.replicate (na+nb) (.int .i64 0)) 3)):=(Below.refl _ w).alloc (Nat.le_refl _) _;have HT0:=Ih (sU.start a b);rw[<-Ps,<-Li]at HT0;obtain⟨W,hW⟩:∃W,W=w.alloc (.cells (Array.replicate (na+nb) (.int .i64 0)) 3):=⟨_,rfl⟩;rw[<-hW]at pA pD;have HW:=Ih hW;have f0:IntKind.i64.wrap ((na:Int)+(nb:Int))=((na+nb:Nat):Int):=by rw[IntWalk.i64_in _ (by omega)];omega
 have HA:=Ih ha;have HB:=Ih hb;have DA:=Ih da;have DB:=Ih db;have XR:=Ih Ps;have HNB:=Ih Li;have OC:=nY.out w;obtain⟨nn,DP⟩:∃nn,nn=na+nb:=⟨_,rfl⟩;have HNN:=Ih DP;rw[<-DP]at f0 OC HT0 pA HW⊢;clear ha hb Ps Li nY hW DP da db;go_enter Tryz.func165,Tryz.ntmps165
 go_upto_region 2 with fail
 rw[<-HW.out];clear OC f0;obtain⟨G,hG⟩:∃G,G=w.heap.size:=⟨_,rfl⟩;rw[<-hG]at pA;have HG:Hid (G=w.heap.size):=Ih hG;rw[<-hG];clear hG
 go_wp2_with fail
 go_loopw [6,7,8,9] (fun i _ _ _ wr=>∃(i':Nat) (o:List Nat),i=.int .i64 i'/\i'<=na/\Hid (sU a b i' 0 0 o)/\eh wr G o/\Below w.heap.size w wr) (fun i _ _ _ _=>na-(intOf i).toNat)
 case atStart=>exact⟨0,_,rfl,Nat.zero_le _,HT0,pA,pD⟩
 case round=>
  clear HT0 pA pD;obtain⟨i,o,rfl,hi,hT,bz,aC⟩:=hrel;by_cases aL:i<na
  ·have aK:(i:Int)<(na:Int):=by omega
   have j6:(0:Int)<=(i:Int):=by omega
   obtain⟨ga,oa,rfl,Pq⟩:=HA.out i (by rw[<-XR.out];exact aL)
   go_wp2_with fail
   go_loopw [7,8,9] (fun c k _ wr=>∃(c' k':Nat) (o:List Nat),c=.int .i64 c'/\k=.int .i64 k'/\k'<=nb/\Hid (sU a b i k' c' o)/\eh wr G o/\Below w.heap.size w wr) (fun _ k _ _=>nb-(intOf k).toNat)
   case atStart=>exact⟨0,0,o,rfl,rfl,Nat.zero_le _,hT,bz,aC⟩
   case round=>
    clear hT bz aC;obtain⟨c,k,o,rfl,rfl,hk,hT,bz,aC⟩:=hrel;by_cases Xe:k<nb
    ·have abQ:(k:Int)<(nb:Int):=by omega
     have AI:(0:Int)<=(k:Int):=by omega
     obtain⟨gb,ob,rfl,OL⟩:=HB.out k (by rw[<-HNB.out];exact Xe);have hst:=hT.out.step DA.out DB.out (by rw[<-XR.out];exact aL) (by rw[<-HNB.out];exact Xe);have hx:=DA.out.get i;have hy:=DB.out.get k;have abD:=hT.out.carry;have SD:=hT.out.len;have hz:=hT.out.digs.get (i+k);have iE:wr.cell? ⟨ga,oa+i,none⟩=some (.int .i64 ((a.getD i 0:Nat):Int)):=by rw[aC.cell (p:=⟨ga,oa+i,none⟩) (World.block_lt_of_cell? _ _ Pq)];exact Pq
     have sO:wr.cell? ⟨gb,ob+k,none⟩=some (.int .i64 ((b.getD k 0:Nat):Int)):=by rw[aC.cell (p:=⟨gb,ob+k,none⟩) (World.block_lt_of_cell? _ _ OL)];exact OL
     have KU:wr.cell? ⟨G,i+k,none⟩=some (.int .i64 ((o.getD (i+k) 0:Nat):Int)):=rowAt bz _ _ (lD (by rw[SD,<-XR.out,<-HNB.out];omega));have hf:wr.frozen? ⟨G,i+k,none⟩=false:=frozen_of_row _ _ _ _ _ bz;have DP:=HNN.out;have jg:=Ih (bz.set (i+k) ((o.getD (i+k) 0+a.getD i 0*b.getD k 0+c)%65536));generalize a.getD i 0=x at iE hst hx jg;generalize b.getD k 0=y at sO hst hy jg;generalize o.getD (i+k) 0=z at KU hst hz jg;obtain⟨j,hj⟩:∃j,j=i+k:=⟨_,rfl⟩;rw[<-hj]at KU hf hst jg;have fj:IntKind.i64.wrap ((i:Int)+(k:Int))=(j:Int):=by rw[IntWalk.i64_in _ (by omega)];omega
     have tI:(0:Int)<=(j:Int):=by omega
     have xA:(j:Int)<(nn:Int):=by omega
     have hxy:x*y<=65535*65535:=Nat.mul_le_mul (by omega) (by omega);obtain⟨m,hm⟩:∃m,m=x*y:=⟨_,rfl⟩;rw[<-hm]at hxy hst jg
     have fm:IntKind.i64.wrap ((x:Int)*(y:Int))=(m:Int):=by
      have:(x:Int)*(y:Int)=(m:Int):=by rw[hm];exact(Int.natCast_mul x y).symm
      rw[this,IntWalk.i64_in _ (by omega)]
     obtain⟨s,hs⟩:∃s,s=z+m:=⟨_,rfl⟩;have fs:IntKind.i64.wrap ((z:Int)+(m:Int))=(s:Int):=by rw[IntWalk.i64_in _ (by omega)];omega
     obtain⟨t,ht⟩:∃t,t=s+c:=⟨_,rfl⟩;have ft:IntKind.i64.wrap ((s:Int)+(c:Int))=(t:Int):=by rw[IntWalk.i64_in _ (by omega)];omega
     rw[<-hs,<-ht]at hst jg;obtain⟨r,hr⟩:∃r,r=t%65536:=⟨_,rfl⟩;obtain⟨q,hq⟩:∃q,q=t / 65536:=⟨_,rfl⟩;have fr:Int.tmod (t:Int) 65536=(r:Int):=by rw[Int.tmod_eq_emod_of_nonneg (by omega)];omega
     have fq:Int.tdiv (t:Int) 65536=(q:Int):=by rw[Int.tdiv_eq_ediv_of_nonneg (by omega)];omega
     have fq2:IntKind.i64.wrap (q:Int)=(q:Int):=IntWalk.i64_in _ (by omega);have fr2:IntKind.i64.wrap (r:Int)=(r:Int):=IntWalk.i64_in _ (by omega);rw[<-hr,<-hq]at hst;rw[<-hr]at jg;have HS:=Ih hst;have HBW:=Ih aC;have hGw:G<wr.heap.size:=aZ bz;have Wx:w.heap.size<=G:=by rw[HG.out];omega
     clear hst hT bz aC hm hs ht hr hq hj Pq OL hx hy hz hxy SD abD DP
     go_wp2_with fail
     go_quiet (fail)
     go_wp2_with fail
     go_roundw
     case rel=>exact⟨q,k+1,_,rfl,by go_num,by omega,HS,jg.out,gz (below_drewN HBW.out _) Wx⟩
     case measure=>simp[intOf];omega
    ·have abQ:¬(k:Int)<(nb:Int):=by omega
     obtain rfl:k=nb:=by omega
     have DK:k=b.length:=HNB.out;have nt:sU a b i b.length c o:=by rw[<-DK];exact hT.out
     have SD:=nt.len;have ach:=XR.out;have DP:=HNN.out;have hst:=nt.last (by omega);rw[<-DK]at hst;obtain⟨j,hj⟩:∃j,j=i+k:=⟨_,rfl⟩;rw[<-hj]at hst;have KU:wr.cell? ⟨G,j,none⟩=some (.int .i64 ((o.getD j 0:Nat):Int)):=rowAt bz _ _ (lD (by rw[SD];omega));have hf:wr.frozen? ⟨G,j,none⟩=false:=frozen_of_row _ _ _ _ _ bz;have fj:IntKind.i64.wrap ((i:Int)+(k:Int))=(j:Int):=by rw[IntWalk.i64_in _ (by omega)];omega
     have tI:(0:Int)<=(j:Int):=by omega
     have xA:(j:Int)<(nn:Int):=by omega
     have jg:=Ih (bz.set j c);have HS:=Ih hst;have HBW:=Ih aC;have Wx:w.heap.size<=G:=by rw[HG.out];omega
     generalize o.getD j 0=z at KU;clear hst hT nt bz aC hj Pq SD DP DK ach
     go_wp2_with fail
     go_roundw
     case rel=>exact⟨i+1,_,by go_num,by omega,HS,jg.out,gz HBW.out Wx⟩
     case measure=>simp[intOf];omega
  ·have aK:¬(i:Int)<(na:Int):=by omega
   have hia:i=a.length:=by rw[<-XR.out];omega
   have hv:Hid (Lz.bO o=Lz.bO a*Lz.bO b):=by
    have:=hT.out.val;rw[hia,List.take_of_length_le (Nat.le_refl _)]at this;show _=_;simpa [Lz.bO]using this
   have hd:=Ih hT.out.digs;have SD:=hT.out.len;have DP:=HNN.out;have Z2:o.length=nn:=by rw[SD,DP,XR.out,HNB.out]
   have HO:=Ih Z2;clear hT hia SD DP Z2
   go_wp2_with fail
   go_ret;exact⟨G,o,rfl,HO.out,hd,hv,bz,aC⟩
theorem yH (v:Value) (a:List Nat) (i:Nat) (w:World) (hA:ql w v a):Calls Tryz.prog 226 #[v,.int .i64 (i:Int)] w fun e w'=>e=.returned (.int .i64 ((a.getD i 0:Nat):Int))/\w=w':=by
 obtain⟨aa,ca,rfl,ha⟩:=hA;have j6:(0:Int)<=(i:Int):=by omega
 obtain⟨na,Ps⟩:∃na,na=a.length:=⟨_,rfl⟩;by_cases aL:i<a.length
 ·obtain⟨g,o,rfl,hc⟩:=ha i aL;rw[<-Ps]at aL⊢;have aK:(i:Int)<(na:Int):=by omega
  clear ha Ps;generalize a.getD i 0=d at hc⊢;go_enter Tryz.func226,Tryz.ntmps226
  go_wp2_with fail
  go_ret;exact⟨rfl,rfl⟩
 ·have hz:a.getD i 0=0:=by rw[List.getD_eq_getElem?_getD,List.getElem?_eq_none (by omega)];rfl
  rw[hz];rw[<-Ps]at aL⊢;have aK:¬(i:Int)<(na:Int):=by omega
  clear ha Ps hz;go_enter Tryz.func226,Tryz.ntmps226
  go_wp2_with fail
  go_ret;exact⟨rfl,rfl⟩
theorem I1 (va vb:Value) (a b:List Nat) (w:World) (hA:ql w va a) (hB:ql w vb b) (da:Lz.jO a) (db:Lz.jO b) (hla:a.length<=1000) (hlb:b.length<=1000):Calls Tryz.prog 166 #[va,vb] w fun e w'=>e=.returned (.bool (decide (Lz.bO b<Lz.bO a)))/\w=w':=by
 have cA:=Ih (fun i=>yH va a i w hA);have cB:=Ih (fun i=>yH vb b i w hB);obtain⟨aa,ca,rfl,_⟩:=hA;obtain⟨ab,cb,rfl,_⟩:=hB;obtain⟨M,hM⟩:∃M,M=max a.length b.length:=⟨_,rfl⟩;have fM:max (a.length:Int) (b.length:Int)=(M:Int):=by omega
 have f1:IntKind.i64.wrap ((M:Int)-1)=(M:Int)-1:=IntWalk.i64_in _ (by omega)
 have HM:Hid (∀j,M<=j->a.getD j 0=b.getD j 0):=by
  show ∀j,_;intro j hj;rw[List.getD_eq_getElem?_getD,List.getD_eq_getElem?_getD,List.getElem?_eq_none (by omega),List.getElem?_eq_none (by omega)]
 have hM1:M<=1000:=by omega
 obtain⟨q,hq⟩:∃q,q=decide (Lz.bO b<Lz.bO a):=⟨_,rfl⟩;rw[<-hq];have HQ:=Ih hq;have DA:=Ih da;have DB:=Ih db;generalize a.length=na at cA fM⊢;generalize b.length=nb at cB fM⊢;clear hq da db hla hlb hM;go_enter Tryz.func166,Tryz.ntmps166
 go_wp2_with fail
 go_loopw [5] (fun i wr=>∃k:Nat,i=.int .i64 ((k:Int)-1)/\k<=M/\Hid (∀j,k<=j->a.getD j 0=b.getD j 0)/\w=wr) (fun i _=>(intOf i+1).toNat)
 case atStart=>exact⟨M,rfl,Nat.le_refl _,HM,rfl⟩
 case round=>
  clear HM f1 fM;obtain⟨k,rfl,hk,hT,rfl⟩:=hrel;cases k with
  | zero=>
    have hV:Hid (q=false):=by
     show _=_;rw[HQ.out,Lz.jU a b (fun j=>hT.out j (by omega))]
     simp
    have e0:((0:Nat):Int)-1= -1:=rfl;rw[e0];clear hT e0
    go_wp2_with fail
    go_ret;exact⟨by rw[hV.out];rfl,rfl⟩
  | succ k=>
    have e1:((k+1:Nat):Int)-1=(k:Int):=by omega
    rw[e1];have AI:(0:Int)<=(k:Int):=by omega
    have f2:IntKind.i64.wrap ((k:Int)-1)=(k:Int)-1:=IntWalk.i64_in _ (by omega);have WG:=Ih (cA.out k);have XN:=Ih (cB.out k);by_cases he:a.getD k 0=b.getD k 0
    ·have nt:Hid (∀j,k<=j->a.getD j 0=b.getD j 0):=by
      show ∀j,_;intro j hj;rcases Nat.lt_or_ge k j with h|h
      ·exact hT.out j h
      ·obtain rfl:j=k:=by omega
       exact he
     rw[<-he]at XN;generalize a.getD k 0=d at WG XN;clear he hT e1
     go_wp2_with fail
     refine WG.out.mono ?_;rintro e w1 ⟨rfl,rfl⟩
     go_wp2_with fail
     refine XN.out.mono ?_;rintro e w1 ⟨rfl,rfl⟩
     go_wp2_with fail
     go_roundw
     case rel=>exact⟨k,rfl,by omega,nt,by first |rfl|trivial⟩
     case measure=>simp[intOf]
    ·have AQ:=Lz.tV k a b DA.out DB.out (fun j hj=>hT.out j hj) he
     have hV:Hid (q=decide (b.getD k 0<a.getD k 0)):=by
      show _=_;rw[HQ.out,Bool.eq_iff_iff,decide_eq_true_iff,decide_eq_true_iff];exact AQ
     generalize a.getD k 0=d at WG he hV;generalize b.getD k 0=f at XN he hV
     have du:((d:Int)==(f:Int))=false:=by
      rw[beq_eq_false_iff_ne];omega
     have hde:¬(d:Int)=(f:Int):=by omega
     have hgt:decide ((f:Int)<(d:Int))=decide (f<d):=by rw[Bool.eq_iff_iff,decide_eq_true_iff,decide_eq_true_iff];omega
     have HG:=Ih hgt;clear he hT e1 AQ hgt
     go_wp2_with fail
     refine WG.out.mono ?_;rintro e w1 ⟨rfl,rfl⟩
     go_wp2_with fail
     refine XN.out.mono ?_;rintro e w1 ⟨rfl,rfl⟩
     go_wp2_with fail
     refine WG.out.mono ?_;rintro e w1 ⟨rfl,rfl⟩
     go_wp2_with fail
     refine XN.out.mono ?_;rintro e w1 ⟨rfl,rfl⟩
     go_wp2_with fail
     go_ret;exact⟨by rw[hV.out,<-HG.out];rfl,rfl⟩
end Go.Proofs.YtibcmemcfjhgmaaGreatDoor
