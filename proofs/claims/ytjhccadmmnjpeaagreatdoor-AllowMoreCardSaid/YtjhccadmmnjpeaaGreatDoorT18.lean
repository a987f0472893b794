/-
  hosts.parse: the IPv6 address that a text writes.
-/
import Derived.Test.YtjhccadmmnjpeaaGreatDoorT16
import Derived.Test.YtjhccadmmnjpeaaGreatDoorT17
set_option maxHeartbeats 2000000
set_option maxRecDepth 100000
namespace Lz
open Go
theorem rowP_len (last:Bool):∀(ls:List Bs) (l:List Nat),rowP last ls=some l->l.length<=ls.length+1
 | [],l,h=>by simp[rowP]at h;simp[h]
 | x::r,l,h=>by
   rw[rowP]at h;split at h
   ·cases hb:bytesP x with
    | none=>rw[hb]at h;cases h
    | some b=>rw[hb]at h;injection h with h;rw[<-h];simp
   ·cases hp:pieceP x with
    | none=>rw[hp]at h;cases h
    | some v=>
      rw[hp]at h;simp only at h;cases hr:rowP last r with
      | none=>rw[hr]at h;cases h
      | some m=>
        rw[hr]at h;injection h with h
        have:=rowP_len last r m hr;rw[<-h];simp;omega
theorem rowS_len {s:Bs} {last:Bool} {l:List Nat} (h:rowS s last=some l):l.length<=s.length+2:=by
 unfold rowS at h;split at h
 ·injection h with h;rw[<-h];simp
 ·have h1:=rowP_len _ _ _ h;have h2:=splitC_len 58 s;omega
end Lz
namespace Go.Proofs.YtjhccadmmnjpeaaGreatDoor
open Go.RowKit
def z8:Array Value:= #[.int .u16 0,.int .u16 0,.int .u16 0,.int .u16 0,.int .u16 0,.int .u16 0,.int .u16 0,.int .u16 0]
theorem sizeU16:(Tryz.prog.info? 294).map (·.size)=some 1:=by kernel_rfl
def RSix (o:Option (List Nat)) (w:World) (e:Ending) (w':World):Prop:=
 Below w.heap.size w w'/\match o with
  | some a=>e=.returned (.tuple #[sixV a,.nilIface])
  | none=>∃v,e=.returned (.tuple #[.agg z8,v])/\Faulty w' 72 1 v
theorem own_u16 {w:World} {base:Nat} {v:Value} {l:List Nat} (h:w.ownsRow base 294 1 v l.length (u16n l)):
  ∃a c,v=.slice a l.length c/\(0<l.length->∃g,a=some ⟨g,0,none⟩/\base<=g/\∀j u,(u16n l)[j]? =some u->w.cell? ⟨g,j,none⟩=some u):=by
 rcases h.2 with⟨rfl,h0⟩|⟨g,cap,cur,rfl,hbg,hg,hnc,hcm,hcs,htk⟩
 ·exact⟨none,0,by rw[h0],fun h=>by omega⟩
 ·refine⟨some ⟨g,0,none⟩,cap,rfl,fun _=>⟨g,rfl,hbg,fun j u hj=>?_⟩⟩;rw[<-htk,List.getElem?_take]at hj;split at hj
  ·simp only[World.cell?,hg];simpa using hj
  ·cases hj
theorem setRow_cell (w:World) (R g j:Nat) (cs:Array Value) (h:g≠R):(w.setRow R cs).cell? ⟨g,j,none⟩=w.cell? ⟨g,j,none⟩:=by
 have:=setRow_other w R g cs h;simp only[World.cell?];rw[this]
theorem wpList_copy_set {P:Program} {w:World} {ops:Array Oper} {rest:List Oper} {o:Oper} {a:Act} {Q:Exit->Act->World->Prop} (hgd:o.guard=none) (d s:Operand) (dT sT:TypeId)
  (ho:o.op=.call {callee:=.builtin .copy,args:= #[d,s],argTypes:= #[dT,sT]}) (elem:TypeId) (hu:P.underlying dT=some (.slice elem)) (hsz:(P.info? elem).map (·.size)=some 1)
  (dp sp:Option Addr) (dLen dCap sLen sCap:Nat) (hd:a.eval d=.slice dp dLen dCap) (hs:a.eval s=.slice sp sLen sCap)
  (g off:Nat) (cur:List Value) (t:TypeId) (hg:w.heap[g]? =some (.cells cur.toArray t (0,0))) (cs:List Value) (hn:cs.length=Nat.min sLen dLen)
  (hpos:0<cs.length->dp=some ⟨g,off,none⟩/\∃ad,sp=some ad/\∀j v,cs[j]? =some v->w.cell? (ad.add j)=some v)
  (hfit:off+cs.length<=cur.length) (h1:∀v∈cs,v.oneCell'=true)
  (h:wpList P ops Q rest (a.put o.dst (goInt cs.length)) (w.setRow g (splice cur off cs).toArray)):wpList P ops Q (o::rest) a w:=by
 by_cases h0:cs.length=0
 ·obtain rfl:cs=[]:=List.eq_nil_of_length_eq_zero h0;refine wpList_copy_nothing hgd d s dT sT ho elem hu hsz dp sp dLen dCap sLen sCap hd hs hn.symm ?_;have e:splice cur off []=cur:=by simp[splice]
  rw[e,setRow_self w g cur.toArray t (0,0) hg]at h;exact h
 ·obtain⟨rfl,ad,rfl,hsrc⟩:=hpos (by omega);refine wpList_copy_own hgd d s dT sT ho elem hu hsz g off dLen dCap ad sLen sCap hd hs cur.toArray t hg cs hn hsrc (by simpa using hfit) h1 ?_;have e:(cur.toArray.toList.take off++(cs++cur.toArray.toList.drop (off+cs.length))).toArray=(splice cur off cs).toArray:=by simp[splice]
  rw[e];exact h
theorem z8_one:z8.all (·.oneCell')=true:=by simp[z8,Value.oneCell']
theorem store_six {ops:Array Oper} {rest:List Oper} {o:Oper} {a:Act} {w:World} {Q:Exit->Act->World->Prop} (hgd:o.guard=none) (x y:Operand) (ho:o.op=.store 296 x y)
  (g:Nat) (hx:a.eval x=.pointer (some ⟨g,0,none⟩)) (cells:Array Value) (h8:cells.size=8) (h1:cells.all (·.oneCell')=true) (hy:a.eval y=.agg cells)
  (old:Array Value) (hg:w.heap[g]? =some (.cells old 296 (0,0))) (hold:old.size=8)
  (hk:wpList Tryz.prog ops Q rest (a.put o.dst undef) (w.setRow g cells)):wpList Tryz.prog ops Q (o::rest) a w:=
 wpList_store_row hgd 296 x y ho g cells hx hy 296 old hg (by rw[six_size,h8]) (hold.trans h8.symm) h1 hk
theorem Faulty.setRow {w:World} {e:Int} {R:Nat} {t:TypeId} {fr:Nat×Nat} (hr:w.heap[R]? =some (.cells z8 t fr)) (cs:Array Value):∀{d:Nat} {v:Value},Faulty w e d v->Faulty (w.setRow R cs) e d v
 | 0,_,h=>h
 | d+1,v,⟨p,u,h1,h2,h3,h4⟩=>by
   refine⟨p,u,h1,by simpa [World.setRow]using h2,?_,Faulty.setRow hr cs h4⟩
   have hne:p≠R:=by
    rintro rfl;obtain⟨t0,x0,hi⟩:=h4.iface;have:w.cell? ⟨p,1,none⟩=some (.int .u16 0):=by simp only[World.cell?,hr];rfl
    rw[h3,hi]at this;cases this
   have:=setRow_other w R p cs hne;simp only[World.cell?]at h3⊢;rw[this];exact h3
theorem rsix_fail {w wx:World} {v:Value} (hb:Below w.heap.size w wx) (hr:wx.heap[w.heap.size]? =some (.cells z8 296 (0,0))) (hf:Faulty wx 72 1 v):RSix none w (.returned (.tuple #[.agg z8,v])) (wx.setRow w.heap.size z8):=
 ⟨below_setRow hb (Nat.le_refl _) _,_,rfl,hf.setRow hr _⟩
theorem rsix_new {w wx:World} {s:ByteArray} {t:TypeId} {fr:Nat×Nat} (hb:Below w.heap.size w wx) (hlt:w.heap.size<wx.heap.size) (hr:wx.heap[w.heap.size]? =some (.cells z8 296 (0,0))):
  RSix none w (.returned (.tuple #[.agg z8,.iface 291 (.pointer (some ⟨wx.heap.size,0,none⟩))])) ((wx.alloc (.cells #[.string s,.iface 37 (.int .i64 72)] t fr)).setRow w.heap.size z8):=
 rsix_fail (hb.alloc hb.size _) (by rw[heap_alloc_old _ _ hlt];exact hr) (faulty_alloc rfl)
def sixG (sh:Bool):Option (List Nat)->Option (List Nat)->Option (List Nat)
 | some x,some y=>if(if sh then decide (8<=x.length+y.length)else !(x.length+y.length==8))then none else some (x++List.replicate (8-x.length-y.length) 0++y)
 | _,_=>none
theorem sixG_eq (s:List UInt8):Lz.sixP s=if(!(Lib.cut s [58,58]).2.2&&s.isEmpty)||Lib.hasPrefix (Lib.cut s [58,58]).2.1 [58]then none else sixG (Lib.cut s [58,58]).2.2 (Lz.rowS (Lib.cut s [58,58]).1 (!(Lib.cut s [58,58]).2.2)) (Lz.rowS (Lib.cut s [58,58]).2.1 true):=by
 unfold Lz.sixP;simp only;split
 ·rfl
 ·generalize Lz.rowS (Lib.cut s [58,58]).1 (!(Lib.cut s [58,58]).2.2)=a;generalize Lz.rowS (Lib.cut s [58,58]).2.1 true=b;cases a with
  | none=>rfl
  | some x=>cases b with
    | none=>rfl
    | some y=>
      unfold sixG;simp only;cases (Lib.cut s [58,58]).2.2
      ·simp only[Bool.false_eq_true,if_false];by_cases h:x.length+y.length=8
       ·rw[if_pos h,h];have:8-x.length-y.length=0:=by omega
        rw[this];simp
       ·rw[if_neg h];have:(x.length+y.length==8)=false:=beq_eq_false_iff_ne.2 h;rw[this];rfl
      ·simp
theorem parseSix_any (s:ByteArray) (hs:s.size<=1048576) (w:World) (hE:EnvH w):Calls Tryz.prog 270 #[.string s] w (RSix (Lz.sixP s.data.toList) w):=by
 have cC:=fun W hW=>Cut_h s ⟨#[58,58]⟩ (by omega) W hW
 have hcl:(Lib.cut s.data.toList [58,58]).1.length<=s.size/\(Lib.cut s.data.toList [58,58]).2.1.length<=s.size:=by
  unfold Lib.cut;split
  ·simp only[List.length_take,List.length_drop,len_of_size];omega
  ·exact⟨Nat.le_refl _,Nat.zero_le _⟩
 obtain⟨hcl1,hcl2⟩:=hcl;have hS:=sixG_eq s.data.toList;rw[show(ByteArray.data ⟨#[58,58]⟩).toList=([58,58]:List UInt8)from rfl]at cC;generalize Lib.cut s.data.toList [58,58]=c at cC hcl1 hcl2 hS;obtain⟨c1,c2,sh⟩:=c;simp only at cC hcl1 hcl2 hS;have CC:=Ih cC;have HS:=Ih hS;have Hcl1:=Ih hcl1;have Hcl2:=Ih hcl2;clear cC hS hcl1 hcl2;go_enter Tryz.func270,Tryz.ntmps270
 go_upto_region 1 with fail
 generalize hwx:w.alloc _=wx;have hw8:wx=w.alloc (.cells z8 296):=by rw[<-hwx];rfl
 have hr0:wx.heap[w.heap.size]? =some (.cells z8 296 (0,0)):=by rw[hw8];exact heap_alloc_new w _
 have hb0:Below w.heap.size w wx:=by rw[hw8];exact(Below.refl _ w).alloc (Nat.le_refl _) _
 have hz0:w.heap.size<wx.heap.size:=by rw[hw8];simp
 clear hwx hw8
 go_wp2_with fail
 refine(CC.out _ (hE.below hb0)).mono ?_;rintro e w1 ⟨fr,bk,rfl,hfr,hbk,hb1⟩;have hr1:w1.heap[w.heap.size]? =some (.cells z8 296 (0,0)):=by rw[hb1.block _ hz0];exact hr0
 have hx1:=below_call hb0 hb1;have hz1:w.heap.size<w1.heap.size:=Nat.lt_of_lt_of_le hz0 hb1.size;have hfz:fr.size<=s.size:=by rw[<-len_of_size fr,hfr.out];exact Hcl1.out
 have hbz:bk.size<=s.size:=by rw[<-len_of_size bk,hbk.out];exact Hcl2.out
 obtain⟨pb,hpb⟩:∃pb,pb=Lib.hasPrefix bk.data.toList [58]:=⟨_,rfl⟩;obtain⟨q,hq⟩:∃q,q=((!sh&&s.data.toList.isEmpty)||pb):=⟨_,rfl⟩
 have HS2:Hid (Lz.sixP s.data.toList=if q then none else sixG sh (Lz.rowS fr.data.toList (!sh)) (Lz.rowS bk.data.toList true)):=by
  show _=_;rw[HS.out,hfr.out,hbk.out,hq,hpb,hbk.out]
 have cP:=fun W=>HasPrefix_c bk ⟨#[58]⟩ W;rw[show Lib.hasPrefix bk.data.toList (ByteArray.data ⟨#[58]⟩).toList=pb from hpb.symm]at cP;have CP:=Ih cP;have Hq:=Ih hq;have Hr1:=Ih hr1;clear HS Hcl1 Hcl2 CC hb0 hz0 hr0 hb1 cP hpb hq hr1
 go_upto_region 2 with fail
 go_cut [25] (fun s25 wc=>s25=.bool q/\w1=wc)
 case first=>
  have call:pb=true\/pb=false:=by cases pb<;>simp
  cases sh
  ·by_cases hz:s.size=0
   ·have he:=isEmpty_of_size hz;have HQ:Hid (q=true):=by show _=_;rw[Hq.out,<-Lib.toList_data,he];rfl
    go_wp2_with fail
    go_meet;exact⟨by rw[HQ.out],rfl⟩
   ·have he:=isEmpty_of_pos (s:=s) (by omega);have HQ:Hid (q=pb):=by show _=_;rw[Hq.out,<-Lib.toList_data,he];rfl
    go_wp2_with fail
    refine(CP.out _).mono ?_;rintro e w' ⟨rfl,rfl⟩
    go_wp2_with fail
    go_meet;exact⟨by rw[HQ.out],rfl⟩
  ·have HQ:Hid (q=pb):=by show _=_;rw[Hq.out];rfl
   go_wp2_with fail
   refine(CP.out _).mono ?_;rintro e w' ⟨rfl,rfl⟩
   go_wp2_with fail
   go_meet;exact⟨by rw[HQ.out],rfl⟩
 case rest=>
  obtain⟨rfl,rfl⟩:=hcut;clear CP Hq;cases q
  ·have HS3:Hid (Lz.sixP s.data.toList=sixG sh (Lz.rowS fr.data.toList (!sh)) (Lz.rowS bk.data.toList true)):=by show _=_;rw[HS2.out];rfl
   have cX:=fun W hW=>row_any fr (!sh) (by omega) W hW;have cY:=fun W hW=>row_any bk true (by omega) W hW;have hlx:=fun l (h:Lz.rowS fr.data.toList (!sh)=some l)=>Lz.rowS_len h;have hly:=fun l (h:Lz.rowS bk.data.toList true=some l)=>Lz.rowS_len h;rw[len_of_size]at hlx hly;generalize Lz.rowS fr.data.toList (!sh)=ox at cX HS3 hlx;generalize Lz.rowS bk.data.toList true=oy at cY HS3 hly;have Hlx:=Ih hlx;have Hly:=Ih hly;clear hlx hly;have CX:=Ih cX;have CY:=Ih cY;clear cX cY HS2 hfr hbk
   go_wp2_with fail
   refine(CX.out _ (hE.below hx1)).mono ?_;rintro e w2 ⟨hb2,hres⟩;have hx2:=below_call hx1 hb2;have hz2:w.heap.size<w2.heap.size:=Nat.lt_of_lt_of_le hz1 hb2.size;have Hr2:Hid (w2.heap[w.heap.size]? =some (.cells z8 296 (0,0))):=by show _=_;rw[hb2.block _ hz1];exact Hr1.out
   cases ox with
   | none=>
     obtain⟨v,rfl,hfy⟩:=hres;have Hfy:=Ih hfy;obtain⟨p,u,rfl,_,_,_⟩:=hfy;have HN:Hid (Lz.sixP s.data.toList=none):=by show _=_;rw[HS3.out];rfl
     go_wp2_with (refine store_six rfl _ _ rfl w.heap.size rfl z8 rfl z8_one rfl z8 Hr2.out rfl ?_)
     refine bodyPost_ret (results_row2 rfl _ _ w.heap.size _ z8 (0,0) _ rfl (setRow_heap _ _ _ _ _ _ Hr2.out) Tryz.underlying296 rfl six_size) rfl ?_;rw[HN.out];exact rsix_fail hx2 Hr2.out Hfy.out
   | some x=>
   obtain⟨vx,basex,rfl,hbx,hox⟩:=hres;clear Hr1 hb2 CX
   go_wp2_with fail
   refine(CY.out _ (hE.below hx2)).mono ?_;rintro e w3 ⟨hb3,hres⟩;have hx3:=below_call hx2 hb3;have hz3:w.heap.size<w3.heap.size:=Nat.lt_of_lt_of_le hz2 hb3.size;have Hr3:Hid (w3.heap[w.heap.size]? =some (.cells z8 296 (0,0))):=by show _=_;rw[hb3.block _ hz2];exact Hr2.out
   cases oy with
   | none=>
     obtain⟨v,rfl,hfy⟩:=hres;have Hfy:=Ih hfy;obtain⟨p,u,rfl,_,_,_⟩:=hfy;have HN:Hid (Lz.sixP s.data.toList=none):=by show _=_;rw[HS3.out];rfl
     clear hox
     go_wp2_with (refine store_six rfl _ _ rfl w.heap.size rfl z8 rfl z8_one rfl z8 Hr3.out rfl ?_)
     refine bodyPost_ret (results_row2 rfl _ _ w.heap.size _ z8 (0,0) _ rfl (setRow_heap _ _ _ _ _ _ Hr3.out) Tryz.underlying296 rfl six_size) rfl ?_;rw[HN.out];exact rsix_fail hx3 Hr3.out Hfy.out
   | some y=>
   obtain⟨vy,basey,rfl,hby,hoy⟩:=hres;have hlx:=Hlx.out x rfl;have hly:=Hly.out y rfl;have hlx2:x.length<=1048578:=by omega
   have hly2:y.length<=1048578:=by omega
   have hgy:w.heap.size<basey:=by omega
   obtain⟨ax,cx,rfl,hx2'⟩:=own_u16 (own_below hox hb3);obtain⟨ay,cy,rfl,hy2'⟩:=own_u16 hoy;have HX2:=Ih hx2';have HY2:=Ih hy2';obtain⟨r,hrr⟩:∃r,r=(if sh then decide (8<=x.length+y.length)else !(x.length+y.length==8)):=⟨_,rfl⟩;have HS4:Hid (Lz.sixP s.data.toList=if r then none else some (x++List.replicate (8-x.length-y.length) 0++y)):=by show _=_;rw[HS3.out,hrr];rfl
   have hr8:r=false->x.length+y.length<=8:=by
    intro h;rw[hrr]at h;cases sh
    ·simp at h;omega
    ·simp at h;omega
   have Hrr:=Ih hrr;have Hr8:=Ih hr8;clear hox hoy Hr2 hx2' hy2' CY hrr hr8 HS3 hb3 hfz hbz hbx hby hlx hly Hlx Hly
   go_upto_region 11 with fail
   go_cut [68] (fun s68 wc=>s68=.bool r/\w3=wc)
   case first=>
    cases sh
    ·by_cases h8:x.length+y.length=8
     ·have hn8:((x.length:Int)+(y.length:Int) != 8)=false:=by
       have:(x.length:Int)+(y.length:Int)=8:=by omega
       rw[this];rfl
      have HQ:Hid (r=false):=by show _=_;rw[Hrr.out,h8];rfl
      clear h8
      go_wp2_with fail
      go_meet;exact⟨by rw[HQ.out],rfl⟩
     ·have hn8:((x.length:Int)+(y.length:Int) != 8)=true:=by simp;omega
      have HQ:Hid (r=true):=by show _=_;rw[Hrr.out];simp[h8]
      clear h8
      go_wp2_with fail
      go_meet;exact⟨by rw[HQ.out],rfl⟩
    ·by_cases h8:8<=x.length+y.length
     ·have hn8:(8:Int)<=(x.length:Int)+(y.length:Int):=by omega
      have hd8:decide ((8:Int)<=(x.length:Int)+(y.length:Int))=true:=decide_eq_true hn8;have HQ:Hid (r=true):=by show _=_;rw[Hrr.out];simp[h8]
      go_wp2_with fail
      go_meet;exact⟨by rw[HQ.out],rfl⟩
     ·have hn8:¬(8:Int)<=(x.length:Int)+(y.length:Int):=by omega
      have hd8:decide ((8:Int)<=(x.length:Int)+(y.length:Int))=false:=decide_eq_false hn8;have HQ:Hid (r=false):=by show _=_;rw[Hrr.out];simp;omega
      go_wp2_with fail
      go_meet;exact⟨by rw[HQ.out],rfl⟩
   case rest=>
    obtain⟨rfl,rfl⟩:=hcut;clear Hrr;cases r
    ·have hxy:=Hr8.out rfl;have HS5:Hid (Lz.sixP s.data.toList=some (x++List.replicate (8-x.length-y.length) 0++y)):=by show _=_;rw[HS4.out];rfl
     have hall:∀W,(Instr.sliceAt 296 (.pointer (some ⟨w.heap.size,0,none⟩)) none none none).run Tryz.prog W=.ok (.slice (some ⟨w.heap.size,0,none⟩) 8 8) W:=fun W=>by
      rw[run_sliceAt_array_all W 296 ⟨w.heap.size,0,none⟩ (by simp[Program.arrayLen,Program.elem,Tryz.underlying296])];rw[six_len];go_simp
     obtain⟨t,ht⟩:∃t:Nat,t=8-y.length:=⟨_,rfl⟩;have ht8:t<=8:=by omega
     have htI:(8:Int)-(y.length:Int)=(t:Int):=by omega
     obtain⟨a2,hfr,ha2⟩:=six_from w.heap.size t ht8;have hlu:(u16n x).length=x.length:=by simp[u16n]
     have hlv:(u16n y).length=y.length:=by simp[u16n]
     have hnx:(u16n x).length=Nat.min x.length 8:=by rw[hlu];exact(Nat.min_eq_left (by omega)).symm
     have hny:(u16n y).length=Nat.min y.length (8-t):=by rw[hlv];exact(Nat.min_eq_left (by omega)).symm
     have hone:∀l:List Nat,∀v∈u16n l,v.oneCell'=true:=by
      intro l v hv;obtain⟨n,_,rfl⟩:=List.mem_map.1 hv;rfl
     have hcx:0<(u16n x).length->(some ⟨w.heap.size,0,none⟩:Option Addr)=some ⟨w.heap.size,0,none⟩/\∃ad,ax=some ad/\∀j v,(u16n x)[j]? =some v->w3.cell? (ad.add j)=some v:=fun h=>by
      obtain⟨g,h1,_,h2⟩:=HX2.out (by omega);exact⟨rfl,_,h1,fun j v hj=>by rw[addr_add];exact h2 j v hj⟩
     have hr4:=setRow_heap w3 w.heap.size z8 (splice z8.toList 0 (u16n x)).toArray 296 (0,0) Hr3.out
     have hcy:0<(u16n y).length->a2=some ⟨w.heap.size,t,none⟩/\∃ad,ay=some ad/\∀j v,(u16n y)[j]? =some v->(w3.setRow w.heap.size (splice z8.toList 0 (u16n x)).toArray).cell? (ad.add j)=some v:=fun h=>by
      obtain⟨g,h1,hg,h2⟩:=HY2.out (by omega);exact⟨ha2 (by omega),_,h1,fun j v hj=>by rw[addr_add,setRow_cell _ _ _ _ _ (by omega)];exact h2 j v hj⟩
     have hx4:=below_setRow hx3 (Nat.le_refl _) (splice z8.toList 0 (u16n x)).toArray;have hz8:z8.toList.length=8:=rfl;have hfx:0+(u16n x).length<=z8.toList.length:=by rw[hlu,hz8];omega
     have hls:(splice z8.toList 0 (u16n x)).length=8:=by rw[length_splice _ _ _ hfx,hz8]
     have hfy:t+(u16n y).length<=(splice z8.toList 0 (u16n x)).length:=by rw[hls,hlv];omega
     have hfin:splice (splice z8.toList 0 (u16n x)) t (u16n y)=u16n (x++List.replicate (8-x.length-y.length) 0++y):=by
      have hz:z8.toList=List.replicate 8 (Value.int .u16 0):=rfl;unfold splice;rw[hz,hlu,hlv,Nat.zero_add,List.take_zero,List.nil_append,List.drop_replicate];rw[List.take_append,List.drop_append,(show(u16n x).take t=u16n x from List.take_of_length_le (by rw[hlu];omega)),(show(u16n x).drop (t+y.length)=[]from List.drop_eq_nil_of_le (by rw[hlu];omega)),hlu,List.take_replicate,List.drop_replicate];rw[show 8-x.length-(t+y.length-x.length)=0 by omega,show min (t-x.length) (8-x.length)=8-x.length-y.length by omega]
      simp[u16n]
     have Ht:=Ih ht;have Hall:=Ih hall;have Hfr:=Ih hfr;have Hcx:=Ih hcx;have Hcy:=Ih hcy;have Hr4:=Ih hr4;have Hnx:=Ih hnx;have Hny:=Ih hny;have Hfx:=Ih hfx;have Hfy:=Ih hfy;have Hone:=Ih hone;have Hfin:=Ih hfin;clear hcx hcy hr4 hnx hny hfx hfy hone hfin hls hz8 hlu hlv ha2 HX2 HY2 HS4 Hr8 hfr hall ht
     go_upto_region 13 with fail
     have hall:=Hall.out;have hfr:=Hfr.out
     go_upto_region 15 with(first |(refine wpList_copy_set rfl (.tmp 74) (.tmp 75) 317 317 rfl 294 Tryz.underlying317 sizeU16 (some ⟨w.heap.size,0,none⟩) ax 8 8 x.length cx rfl rfl w.heap.size 0 z8.toList 296 Hr3.out (u16n x) Hnx.out Hcx.out Hfx.out (Hone.out x) ?_)|(refine wpList_copy_set rfl (.tmp 80) (.tmp 81) 317 317 rfl 294 Tryz.underlying317 sizeU16 a2 ay (8-t) (8-t) y.length cy rfl rfl w.heap.size t (splice z8.toList 0 (u16n x)) 296 Hr4.out (u16n y) Hny.out Hcy.out Hfy.out (Hone.out y) ?_))
     rw[Hfin.out];have hsz8:(x++List.replicate (8-x.length-y.length) 0++y).length=8:=by simp;omega
     have hone8:(u16n (x++List.replicate (8-x.length-y.length) 0++y)).toArray.all (·.oneCell')=true:=by
      simp[u16n,Value.oneCell']
     generalize x++List.replicate (8-x.length-y.length) 0++y=al at HS5 hsz8 hone8⊢;have hr5:=setRow_heap _ w.heap.size _ (u16n al).toArray 296 (0,0) Hr4.out;have hx5:=below_setRow hx4 (Nat.le_refl _) (u16n al).toArray;have hl8:(u16n al).toArray.size=8:=by simp[u16n,hsz8]
     have hi8:(Tryz.prog.info? 296).map (·.size)=some (u16n al).toArray.size:=by rw[six_size,hl8]
     generalize (w3.setRow w.heap.size (splice z8.toList 0 (u16n x)).toArray).setRow w.heap.size (u16n al).toArray=w5 at hr5 hx5⊢;have Hr5:=Ih hr5;have Hi8:=Ih hi8;have Hl8:=Ih hl8;have Hone8:=Ih hone8;clear Hall hall Hfr Hcx Hcy Hr4 Hnx Hny Hfx Hfy Hone Hfin Ht hfr htI hr5 hi8 hl8 hone8 hsz8 hx4 Hr3 hx3 hz3
     go_wp2_with (first |(refine wpList_load_row rfl 296 _ rfl w.heap.size rfl 296 _ (0,0) _ Hr5.out Tryz.underlying296 rfl Hi8.out ?_)|(refine store_six rfl _ _ rfl w.heap.size rfl (u16n al).toArray Hl8.out Hone8.out rfl (u16n al).toArray Hr5.out Hl8.out ?_))
     refine bodyPost_ret (results_row2 rfl _ _ w.heap.size _ (u16n al).toArray (0,0) _ rfl (setRow_heap _ _ _ _ _ _ Hr5.out) Tryz.underlying296 rfl Hi8.out) rfl ?_;rw[HS5.out];exact⟨below_setRow hx5 (Nat.le_refl _) _,rfl⟩
    ·have HN:Hid (Lz.sixP s.data.toList=none):=by show _=_;rw[HS4.out];rfl
     have hr4:∀o,(w3.alloc o).heap[w.heap.size]? =some (.cells z8 296 (0,0)):=fun o=>by rw[heap_alloc_old _ _ hz3];exact Hr3.out
     have Hr4:=Ih hr4;clear hr4
     go_wp2_with (refine store_six rfl _ _ rfl w.heap.size rfl z8 rfl z8_one rfl z8 (Hr4.out _) rfl ?_)
     refine bodyPost_ret (results_row2 rfl _ _ w.heap.size _ z8 (0,0) _ rfl (setRow_heap _ _ _ _ _ _ (Hr4.out _)) Tryz.underlying296 rfl six_size) rfl ?_;rw[HN.out];exact rsix_new hx3 hz3 Hr3.out
  ·have HN:Hid (Lz.sixP s.data.toList=none):=by show _=_;rw[HS2.out];rfl
   have hr2:∀o,(w1.alloc o).heap[w.heap.size]? =some (.cells z8 296 (0,0)):=fun o=>by rw[heap_alloc_old _ _ hz1];exact Hr1.out
   have Hr2:=Ih hr2;clear hr2
   go_wp2_with (refine store_six rfl _ _ rfl w.heap.size rfl z8 rfl z8_one rfl z8 (Hr2.out _) rfl ?_)
   refine bodyPost_ret (results_row2 rfl _ _ w.heap.size _ z8 (0,0) _ rfl (setRow_heap _ _ _ _ _ _ (Hr2.out _)) Tryz.underlying296 rfl six_size) rfl ?_;rw[HN.out];exact rsix_new hx1 hz1 Hr1.out
end Go.Proofs.YtjhccadmmnjpeaaGreatDoor
