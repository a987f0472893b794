/-
  Package urls: Text.
-/
import Derived.Test.YtibcmemcfjhgmaaGreatDoorV30
namespace Go.Proofs.YtibcmemcfjhgmaaGreatDoor
open Go.RowKit
theorem j4.below {w w':World} {v:Value} {u:Lz.au} (h:j4 w v u) (hb:Below w.heap.size w w'):j4 w' v u:=by
 obtain⟨x,h1,h2,h3⟩:=h;exact⟨x,h1,h2.below hb,h3⟩
def gH (w:World) (v:Value) (u:Lz.au):Prop:=∃(B:Nat) (x:MkV),v=x.val/\bG w B x.pv x.xs/\Hid (x.url=u)
theorem gH.val {w:World} {v:Value} {u:Lz.au} (h:gH w v u):j4 w v u:=by
 obtain⟨B,x,h1,h2,h3⟩:=h;obtain⟨a,c,e,_,hc⟩:=h2.form;exact⟨x,h1,⟨a,c,x.xs,e,rfl,hc⟩,h3⟩
theorem gH.below {w w':World} {v:Value} {u:Lz.au} (h:gH w v u) (hb:Below w.heap.size w w'):gH w' v u:=by
 obtain⟨B,x,h1,h2,h3⟩:=h;exact⟨B,x,h1,h2.below hb,h3⟩
def YM:Lz.au:={port:=0}
def VD (r:Lz.UR) (w:World) (v1 v2:Value):Prop:=match r with
 | .ok u=>v2=.nilIface/\gH w v1 u
 | .er n=>MJ n v2/\gH w v1 YM
def YY (r:Lz.UR) (w:World) (e:Ending) (w':World):Prop:=∃v1 v2,e=.returned (.tuple #[v1,v2])/\Below w.heap.size w w'/\VD r w' v1 v2
theorem qo (w:World) (g:Nat) (cs:Array Value):w.grownBy (w.setRow g cs) (some g):=
 ⟨rfl,rfl,rfl,by simp[World.setRow],fun k _ hk=>setRow_other _ _ _ _ (fun e=>hk (by rw[e]))⟩
theorem gH.setRow {w:World} {v:Value} {u:Lz.au} (h:gH w v u) {r:Nat} {cs:Array Value} {fr:Nat×Nat} (hr:w.heap[r]? =some (.cells cs 38 fr)) (cs':Array Value):gH (w.setRow r cs') v u:=by
 obtain⟨B,x,h1,h2,h3⟩:=h;exact⟨B,x,h1,h2.kept (qo w r cs') (fun k hk=>by injection hk with hk;subst hk;exact⟨_,_,_,hr,by decide⟩),h3⟩
theorem LD (s:List UInt8) (b:Option Lz.au):Lz.pO s b=(Lz.jL {query:=(Lib.cut (Lib.cut (Lz.bB s) [35]).1 [63]).2.1,hasQuery:=(Lib.cut (Lib.cut (Lz.bB s) [35]).1 [63]).2.2,fragment:=(Lib.cut (Lz.bB s) [35]).2.1,hasFragment:=(Lib.cut (Lz.bB s) [35]).2.2} (Lib.cut (Lib.cut (Lz.bB s) [35]).1 [63]).1 b).bind Lz.Fi:=rfl
theorem NX {B M:Nat} {w w1:World} {u:Lz.au} (hm:fQ B M w1 u) (hb:Below B w w1) (h:ByteArray):
  Below B w (w1.setCell ⟨M,10,none⟩ (.string h))/\fQ B M (w1.setCell ⟨M,10,none⟩ (.string h)) {u with query:=h.data.toList}:=by
 obtain⟨sch,usr,pas,hh,hst,prt,opq,a,c,ys,hq,hf,qry,frg,hk,rfl,hc,aW⟩:=hm.form;exact⟨hb.setCell (p:=⟨M,10,none⟩) hk.le _,_,gv hk 10 (.string h) ⟨sch,usr,pas,hh,hst,prt,opq,.slice a ys.length c,ys,hq,hf,h,frg⟩ (Lz.aj sch.data.toList) (dk (Lz.aj sch.data.toList)) (by simp) (fun _ h=>h),Ih rfl⟩
theorem Rq {B M:Nat} {w w1:World} {u:Lz.au} (hm:fQ B M w1 u) (hb:Below B w w1) (h:ByteArray):
  Below B w (w1.setCell ⟨M,11,none⟩ (.string h))/\fQ B M (w1.setCell ⟨M,11,none⟩ (.string h)) {u with fragment:=h.data.toList}:=by
 obtain⟨sch,usr,pas,hh,hst,prt,opq,a,c,ys,hq,hf,qry,frg,hk,rfl,hc,aW⟩:=hm.form;exact⟨hb.setCell (p:=⟨M,11,none⟩) hk.le _,_,gv hk 11 (.string h) ⟨sch,usr,pas,hh,hst,prt,opq,.slice a ys.length c,ys,hq,hf,qry,h⟩ (Lz.aj sch.data.toList) (dk (Lz.aj sch.data.toList)) (by simp) (fun _ h=>h),Ih rfl⟩
theorem SY {B M:Nat} {w:World} {u:Lz.au} (hm:fQ B M w u):∃q f:ByteArray,w.cell? ⟨M,10,none⟩=some (.string q)/\q.data.toList=u.query/\w.cell? ⟨M,11,none⟩=some (.string f)/\f.data.toList=u.fragment:=by
 obtain⟨sch,usr,pas,hh,hst,prt,opq,a,c,ys,hq,hf,qry,frg,hk,rfl,hc,aW⟩:=hm.form;exact⟨qry,frg,rowAt hk.row 10 _ rfl,rfl,rowAt hk.row 11 _ rfl,rfl⟩
theorem Yv (c d:UInt8):(⟨#[c,d]⟩:ByteArray).size=2:=rfl
end Go.Proofs.YtibcmemcfjhgmaaGreatDoor
