/-
  Package urls: files.
-/
import Derived.Test.YtjhccadmmnjpeaaGreatDoorT24
namespace Go.Proofs.YtjhccadmmnjpeaaGreatDoor
open Go.RowKit
def BaseAt (B:Nat) (w:World) (bv:Value):Option Lz.UrlL->Prop
 | none=>bv=.pointer none
 | some u=>∃(p:Nat) (fr:Nat×Nat) (sch usr pas:ByteArray) (hh:Bool) (hst:ByteArray) (prt:Int) (opq:Bool) (a:Option Addr) (c:Nat) (xs:List ByteArray) (hq hf:Bool) (qry frg:ByteArray),bv=.pointer (some ⟨p,0,none⟩)/\p<B/\
  w.heap[p]? =some (.cells #[.string sch,.string usr,.string pas,.bool hh,.string hst,.int .i64 prt,.bool opq,.slice a xs.length c,.bool hq,.bool hf,.string qry,.string frg] 36 fr)/\
  u=⟨sch.data.toList,usr.data.toList,pas.data.toList,hh,hst.data.toList,prt,opq,xs.map (fun x:ByteArray=>x.data.toList),hq,hf,qry.data.toList,frg.data.toList⟩/\
  ∀(j:Nat) (x:ByteArray),xs[j]? =some x->∃G off,a=some ⟨G,off,none⟩/\G<B/\w.cell? ⟨G,off+j,none⟩=some (.string x)
theorem BaseAt.at {B:Nat} {w w':World} {bv:Value} {b:Option Lz.UrlL} (h:BaseAt B w bv b) (hb:Below B w w'):BaseAt B w' bv b:=by
 cases b with
 | none=>exact h
 | some u=>
   obtain⟨p,fr,sch,usr,pas,hh,hst,prt,opq,a,c,xs,hq,hf,qry,frg,h1,h2,h3,h4,h5⟩:=h;refine⟨p,fr,sch,usr,pas,hh,hst,prt,opq,a,c,xs,hq,hf,qry,frg,h1,h2,by rw[hb.block p h2];exact h3,h4,fun j x hj=>?_⟩;obtain⟨G,off,e1,e2,e3⟩:=h5 j x hj;exact⟨G,off,e1,e2,by rw[hb.cell (p:=⟨G,off+j,none⟩) e2];exact e3⟩
theorem base_kept {B:Nat} {w:World} {sch usr pas:ByteArray} {hh:Bool} {hst:ByteArray} {prt:Int} {opq:Bool} {a:Option Addr} {c:Nat} {xs:List ByteArray} {hq hf:Bool} {qry frg:ByteArray} (hB:B<=w.heap.size)
  (h:∀(j:Nat) (x:ByteArray),xs[j]? =some x->∃G off,a=some ⟨G,off,none⟩/\G<B/\w.cell? ⟨G,off+j,none⟩=some (.string x)):
  UrlKept B w (.agg #[.string sch,.string usr,.string pas,.bool hh,.string hst,.int .i64 prt,.bool opq,.slice a xs.length c,.bool hq,.bool hf,.string qry,.string frg]) ⟨sch.data.toList,usr.data.toList,pas.data.toList,hh,hst.data.toList,prt,opq,xs.map (fun x:ByteArray=>x.data.toList),hq,hf,qry.data.toList,frg.data.toList⟩:=by
 intro w' hb;refine⟨⟨sch,usr,pas,hh,hst,prt,opq,.slice a xs.length c,xs,hq,hf,qry,frg⟩,rfl,⟨a,c,xs,rfl,rfl,fun j x hj=>?_⟩,Ih rfl⟩;obtain⟨G,off,e1,e2,e3⟩:=h j x hj;exact⟨G,off,e1,Nat.lt_of_lt_of_le e2 (Nat.le_trans hB hb.size),by rw[hb.cell (p:=⟨G,off+j,none⟩) e2];exact e3⟩
theorem mk_cell {B M:Nat} {w:World} {u:Lz.UrlL} (hm:MkIs B M w u) (k:Nat) (hk:k<14):∃v,w.cell? ⟨M,k,none⟩=some v/\w.frozen? ⟨M,k,none⟩=false:=by
 obtain⟨x,hx,_⟩:=hm;refine⟨_,rowAt hx.row k _ (Array.getElem?_eq_getElem (by simpa using hk)),rowFz hx.row k⟩
theorem mk_host {B M:Nat} {w w1:World} {u:Lz.UrlL} (hm:MkIs B M w1 u) (hb:Below B w w1) (h:ByteArray):
  Below B w (w1.setCell ⟨M,4,none⟩ (.string h))/\MkIs B M (w1.setCell ⟨M,4,none⟩ (.string h)) {u with host:=h.data.toList}:=by
 obtain⟨sch,usr,pas,hh,hst,prt,opq,a,c,ys,hq,hf,qry,frg,hk,rfl,hc,hcells⟩:=hm.form;exact⟨hb.setCell (p:=⟨M,4,none⟩) hk.le _,_,mk_set hk 4 (.string h) ⟨sch,usr,pas,hh,h,prt,opq,.slice a ys.length c,ys,hq,hf,qry,frg⟩ (Lz.specP sch.data.toList) (slashB (Lz.specP sch.data.toList)) (by simp) (fun _ h=>h),Ih rfl⟩
theorem mk_hh {B M:Nat} {w w1:World} {u:Lz.UrlL} (hm:MkIs B M w1 u) (hb:Below B w w1) (q:Bool):
  Below B w (w1.setCell ⟨M,3,none⟩ (.bool q))/\MkIs B M (w1.setCell ⟨M,3,none⟩ (.bool q)) {u with hasHost:=q}:=by
 obtain⟨sch,usr,pas,hh,hst,prt,opq,a,c,ys,hq,hf,qry,frg,hk,rfl,hc,hcells⟩:=hm.form;exact⟨hb.setCell (p:=⟨M,3,none⟩) hk.le _,_,mk_set hk 3 (.bool q) ⟨sch,usr,pas,q,hst,prt,opq,.slice a ys.length c,ys,hq,hf,qry,frg⟩ (Lz.specP sch.data.toList) (slashB (Lz.specP sch.data.toList)) (by simp) (fun _ h=>h),Ih rfl⟩
theorem mk_get {B M:Nat} {w:World} {u:Lz.UrlL} (hm:MkIs B M w u):∃hst:ByteArray,w.cell? ⟨M,4,none⟩=some (.string hst)/\hst.data.toList=u.host:=by
 obtain⟨sch,usr,pas,hh,hst,prt,opq,a,c,ys,hq,hf,qry,frg,hk,rfl,hc,hcells⟩:=hm.form;exact⟨hst,rowAt hk.row 4 _ rfl,rfl⟩
theorem mk_sp {B M:Nat} {w:World} {u:Lz.UrlL} (hm:MkIs B M w u) {sp:Bool} (hsp:sp=Lz.specP u.scheme):w.cell? ⟨M,12,none⟩=some (.bool sp)/\w.cell? ⟨M,13,none⟩=some (.string (slashB sp)):=by
 obtain⟨sch,usr,pas,hh,hst,prt,opq,a,c,xs,hq,hf,qry,frg,hk,rfl,_,_⟩:=hm.form;rw[hsp];exact⟨rowAt hk.row 12 _ rfl,rowAt hk.row 13 _ rfl⟩
theorem path_one (w:World) (B:Nat) (x:ByteArray):PathOwn (w.alloc (.cells #[.string x] 9)) B (.slice (some ⟨w.heap.size,0,none⟩) 1 1) [x]:=
 .inr ⟨⟨w.heap.size,0,none⟩,rfl,rfl,fun j u hj=>cell_one w (.string x) 9 j u hj,fun _=>⟨#[.string x],(0,0),by show(w.heap.push _)[w.heap.size]? =_;simp⟩⟩
theorem filesU_two (u:Lz.UrlL) (b:Option Lz.UrlL) (r:List UInt8) (h:1<Lz.leadS true r):Lz.filesU u b r=
  (if Lz.driveP (Lz.cutS true (r.drop 2)).1 then .ok (Lz.onP {u with hasHost:=true} (r.drop 2))
  else(if(Lz.cutS true (r.drop 2)).1=[]then Lz.UR.ok {u with hasHost:=true} else Lz.hostU {u with hasHost:=true} (Lz.cutS true (r.drop 2)).1).bind fun u=>.ok (Lz.onP (if u.host=Lz.localS then{u with host:=[]} else u) (Lz.cutS true (r.drop 2)).2.1)):=by
 unfold Lz.filesU;simp only;rw[if_pos h]
theorem filesU_one (u:Lz.UrlL) (b:Option Lz.UrlL) (r:List UInt8) (h:Lz.leadS true r=1):Lz.filesU u b r=
  .ok (Lz.onP (match b with
   | some x=>if x.scheme=Lz.fileS then(if Lz.drivenP (r.drop 1)=false/\Lz.rootedP x.path=true then{u with hasHost:=true,host:=x.host,path:=x.path.take 1} else{u with hasHost:=true,host:=x.host})else{u with hasHost:=true}
   | none=>{u with hasHost:=true}) (r.drop 1)):=by
 unfold Lz.filesU;simp only;rw[if_neg (by omega),if_pos h];cases b<;>rfl
theorem filesU_none (u:Lz.UrlL) (b:Option Lz.UrlL) (r:List UInt8) (h:Lz.leadS true r=0):Lz.filesU u b r=match b with
  | some x=>if x.scheme=Lz.fileS then(if Lz.drivenP r then .ok (Lz.onP {u with hasHost:=true,host:=x.host} r)else .ok (Lz.pathU {u with hasHost:=true,host:=x.host} x r))else .ok (Lz.onP {u with hasHost:=true} r)
  | none=>.ok (Lz.onP {u with hasHost:=true} r):=by
 unfold Lz.filesU;simp only;rw[if_neg (by omega),if_neg (by omega)];cases b<;>rfl
end Go.Proofs.YtjhccadmmnjpeaaGreatDoor
