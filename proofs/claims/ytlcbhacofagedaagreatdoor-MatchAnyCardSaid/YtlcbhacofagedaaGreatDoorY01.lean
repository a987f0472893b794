/-
  Small laws on worlds and on rows of bytes that the walks of this seat lean on. No condition.
-/
import Derived.WalkSpells
import Derived.WalkLawsBesides
import Derived.Lib.Hide
import Derived.Laws.CopyOwn
import Derived.OrdersHeld
namespace Go.Proofs.YtlcbhacofagedaaGreatDoor
open Go.RowKit
theorem Ih {p:Prop} (h:p):Hid p:=h
theorem Tk {P:Program} {md:Region.Mode} {ops:Array Oper} {Q:Exit->Act->World->Prop} {S:World->Prop} {fuel:Nat} {listed:Array Bool} {a:Act} {w:World} (i:Nat) {oi:Oper} {v:Value} (hi:ops[i]? =some oi) (hy:∀w,S w->(execOp a.eval oi).run P w=.ok (.value v) w) (h:wpAnyH P md ops Q S fuel (listed.setIfInBounds i true) (a.put oi.dst v) w) (hs:Region.noSelect ops=true:=by kernel_rfl) (hf:Region.free md ops listed i=true:=by kernel_rfl) (hr:(Region.ready md ops listed).contains i=true:=by kernel_rfl) (hQ:∀c a w,Q (.panic c) (a.put oi.dst v) w->Q (.panic c) a w:=by exact fun _ _ _ h=>h) (hw:Region.wanted oi (yielded ops a.tmps)=true:=by rfl) (hS:S w:=by assumption):wpAnyH P md ops Q S (fuel+1) listed a w:=wpAnyH_take hi hs hf hr hQ (Or.inl ⟨hw,hy⟩) hS h
theorem fa (b j:Nat):(⟨b,0,none⟩:Addr).add j=⟨b,j,none⟩:=by
 simp[Addr.add]
 omega
theorem aa (s:ByteArray):s.data.toList.length=s.size:=rfl
def jY (w:World) (b:Nat) (l:List UInt8):Prop:=∀j c,l[j]? =some c->w.cell? ⟨b,j,none⟩=some (.int .u8 (c.toNat:Int))/\w.frozen? ⟨b,j,none⟩=false
theorem yX (s:ByteArray) (cap j:Nat) (c:UInt8) (h:s.data.toList[j]? =some c):(bytesRow s cap)[j]? =some (.int .u8 (c.toNat:Int)):=by
 have hj:j<s.data.size:=by
  have:=(List.getElem?_eq_some_iff.1 h).1;simpa using this
 unfold bytesRow;rw[Array.getElem?_append_left (by simpa using hj)];rw[Array.getElem?_map];have:s.data[j]? =some c:=by simpa using h
 rw[this];rfl
theorem yZ (w:World) (s:ByteArray) (cap:Nat) (t:TypeId):jY (w.alloc (.cells (bytesRow s cap) t ((bytesRow s cap).size,(bytesRow s cap).size+1))).drew w.heap.size s.data.toList:=by
 intro j c h;have hg:=yX s cap j c h;refine⟨?_,?_⟩
 ·show(w.alloc _).cell? _=_;rw[World.cell?_alloc_mark];exact hg
 ·show(w.alloc _).frozen? _=_;have hj:=(Array.getElem?_eq_some_iff.1 hg).1
  have hb:(w.alloc (.cells (bytesRow s cap) t ((bytesRow s cap).size,(bytesRow s cap).size+1))).heap[w.heap.size]? =some (.cells (bytesRow s cap) t ((bytesRow s cap).size,(bytesRow s cap).size+1)):=by
   show(w.heap.push _)[w.heap.size]? =_
   simp
  simp only[World.frozen?,hb]
  simp
  omega
theorem jY.set {w:World} {b:Nat} {l:List UInt8} (h:jY w b l) (k:Nat) (c:UInt8):jY (w.setCell ⟨b,k,none⟩ (.int .u8 (c.toNat:Int))) b (l.set k c):=by
 intro j d hd;rw[List.getElem?_set]at hd;by_cases Dt:k=j
 ·subst Dt;rw[if_pos rfl]at hd;split at hd
  ·rename_i aN;obtain⟨h1,h2⟩:=h k _ (List.getElem?_eq_getElem aN);obtain rfl:=Option.some.inj hd;refine⟨?_,?_⟩
   ·exact World.cell?_setCell_same _ _ _ h1
   ·rw[World.frozen?_setCell];exact h2
  ·cases hd
 ·rw[if_neg Dt]at hd;obtain⟨h1,h2⟩:=h j d hd;refine⟨?_,?_⟩
  ·rw[World.cell?_setCell_other _ _ _ _ (by intro e;injection e with _ e2 _;exact Dt e2)];exact h1
  ·rw[World.frozen?_setCell];exact h2
theorem bH {P:Program} {fn:Func} {p u:Tmp} {ty:TypeId} (h:fn.results= #[.cell p ty,.tmp u]) (tmps:Array Value) (w:World) (g:Nat) (t:TypeId) (cs:Array Value) (fr:Nat×Nat) (d:TypeDesc)
  (hp:tmps.getD p undef=.pointer (some ⟨g,0,none⟩)) (hg:w.heap[g]? =some (.cells cs t fr))
  (hu:P.underlying ty=some d) (hd:(match d with| .struct _| .array _ _=>true|_=>false)=true) (hi:(P.info? ty).map (·.size)=some cs.size):
  (results fn tmps).run P w=.ok (.tuple #[.agg cs,tmps.getD u undef]) w:=by
 rw[results_cell_tmp h,hp];have:(asAddr (.pointer (some (⟨g,0,none⟩:Addr)))).run P w=.ok ⟨g,0,none⟩ w:=by simp[asAddr]
 rw[this];simp only[Result.andThen,run_loadVar_row w g t ty cs fr d hg hu hd hi]
end Go.Proofs.YtlcbhacofagedaaGreatDoor
