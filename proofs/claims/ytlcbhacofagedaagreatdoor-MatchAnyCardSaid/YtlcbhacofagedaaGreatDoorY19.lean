/-
  strings.IndexRune at a rune beyond 127 in a text of bytes below 128; strings.IndexAny and ContainsAny of any text, at such bytes.
-/
import Derived.Test.YtlcbhacofagedaaGreatDoorY17
import Derived.Test.YtlcbhacofagedaaGreatDoorY18
import Derived.Lib.QuoteLoop
set_option maxHeartbeats 2000000
set_option maxRecDepth 1000000
namespace Lz
open Go
theorem BS (last:Bool):∀(ls:List Bs) (l:List Nat),gL last ls=some l->l.length<=ls.length+1
 | [],l,h=>by simp[gL]at h;simp[h]
 | x::r,l,h=>by
   rw[gL]at h;split at h
   ·cases hb:fS x with
    | none=>rw[hb]at h;cases h
    | some b=>rw[hb]at h;injection h with h;rw[<-h];simp
   ·cases hp:eD x with
    | none=>rw[hp]at h;cases h
    | some v=>
      rw[hp]at h;simp only at h;cases hr:gL last r with
      | none=>rw[hr]at h;cases h
      | some m=>
        rw[hr]at h;injection h with h
        have:=BS last r m hr;rw[<-h];simp;omega
theorem Cw {s:Bs} {last:Bool} {l:List Nat} (h:eM s last=some l):l.length<=s.length+2:=by
 unfold eM at h;split at h
 ·injection h with h;rw[<-h];simp
 ·have h1:=BS _ _ _ h;have h2:=dz 58 s;omega
end Lz
namespace Go.Proofs.YtlcbhacofagedaaGreatDoor
open Go.RowKit
def z8:Array Value:= #[.int .u16 0,.int .u16 0,.int .u16 0,.int .u16 0,.int .u16 0,.int .u16 0,.int .u16 0,.int .u16 0]
theorem GW:(Tryz.prog.info? 228).map (·.size)=some 1:=by kernel_rfl
def Vt (o:Option (List Nat)) (w:World) (e:Ending) (w':World):Prop:=
 Below w.heap.size w w'/\match o with
  | some a=>e=.returned (.tuple #[Fv a,.nilIface])
  | none=>∃v,e=.returned (.tuple #[.agg z8,v])/\dE w' 72 1 v
theorem Gx {w:World} {base:Nat} {v:Value} {l:List Nat} (h:w.ownsRow base 228 1 v l.length (dK l)):
  ∃a c,v=.slice a l.length c/\(0<l.length->∃g,a=some ⟨g,0,none⟩/\base<=g/\∀j u,(dK l)[j]? =some u->w.cell? ⟨g,j,none⟩=some u):=by
 rcases h.2 with⟨rfl,h0⟩|⟨g,cap,ir,rfl,TF,hg,RH,hcm,iV,gE⟩
 ·exact⟨none,0,by rw[h0],fun h=>by omega⟩
 ·refine⟨some ⟨g,0,none⟩,cap,rfl,fun _=>⟨g,rfl,TF,fun j u hj=>?_⟩⟩;rw[<-gE,List.getElem?_take]at hj;split at hj
  ·simp only[World.cell?,hg];simpa using hj
  ·cases hj
theorem A0 (w:World) (R g j:Nat) (cs:Array Value) (h:g≠R):(w.setRow R cs).cell? ⟨g,j,none⟩=w.cell? ⟨g,j,none⟩:=by
 have:=setRow_other w R g cs h;simp only[World.cell?];rw[this]
theorem lO {P:Program} {w:World} {ops:Array Oper} {rest:List Oper} {o:Oper} {a:Act} {Q:Exit->Act->World->Prop} (PA:o.guard=none) (d s:Operand) (dT sT:TypeId)
  (ho:o.op=.call {callee:=.builtin .copy,args:= #[d,s],argTypes:= #[dT,sT]}) (elem:TypeId) (hu:P.underlying dT=some (.slice elem)) (dV:(P.info? elem).map (·.size)=some 1)
  (dp sp:Option Addr) (Sr VT Sc V3:Nat) (hd:a.eval d=.slice dp Sr VT) (hs:a.eval s=.slice sp Sc V3)
  (g off:Nat) (ir:List Value) (t:TypeId) (hg:w.heap[g]? =some (.cells ir.toArray t (0,0))) (cs:List Value) (hn:cs.length=Nat.min Sc Sr)
  (ei:0<cs.length->dp=some ⟨g,off,none⟩/\∃ad,sp=some ad/\∀j v,cs[j]? =some v->w.cell? (ad.add j)=some v)
  (aa3:off+cs.length<=ir.length) (h1:∀v∈cs,v.oneCell'=true)
  (h:wpList P ops Q rest (a.put o.dst (goInt cs.length)) (w.setRow g (splice ir off cs).toArray)):wpList P ops Q (o::rest) a w:=by
 by_cases h0:cs.length=0
 ·obtain rfl:cs=[]:=List.eq_nil_of_length_eq_zero h0;refine wpList_copy_nothing PA d s dT sT ho elem hu dV dp sp Sr VT Sc V3 hd hs hn.symm ?_;have e:splice ir off []=ir:=by simp[splice]
  rw[e,setRow_self w g ir.toArray t (0,0) hg]at h;exact h
 ·obtain⟨rfl,ad,rfl,abH⟩:=ei (by omega);refine wpList_copy_own PA d s dT sT ho elem hu dV g off Sr VT ad Sc V3 hd hs ir.toArray t hg cs hn abH (by simpa using aa3) h1 ?_;have e:(ir.toArray.toList.take off++(cs++ir.toArray.toList.drop (off+cs.length))).toArray=(splice ir off cs).toArray:=by simp[splice]
  rw[e];exact h
theorem ur:z8.all (·.oneCell')=true:=by simp[z8,Value.oneCell']
theorem im {ops:Array Oper} {rest:List Oper} {o:Oper} {a:Act} {w:World} {Q:Exit->Act->World->Prop} (PA:o.guard=none) (x y:Operand) (ho:o.op=.store 230 x y)
  (g:Nat) (hx:a.eval x=.pointer (some ⟨g,0,none⟩)) (cells:Array Value) (h8:cells.size=8) (h1:cells.all (·.oneCell')=true) (hy:a.eval y=.agg cells)
  (jo:Array Value) (hg:w.heap[g]? =some (.cells jo 230 (0,0))) (Wb:jo.size=8)
  (hk:wpList Tryz.prog ops Q rest (a.put o.dst undef) (w.setRow g cells)):wpList Tryz.prog ops Q (o::rest) a w:=
 wpList_store_row PA 230 x y ho g cells hx hy 230 jo hg (by rw[ix,h8]) (Wb.trans h8.symm) h1 hk
theorem dE.setRow {w:World} {e:Int} {R:Nat} {t:TypeId} {fr:Nat×Nat} (hr:w.heap[R]? =some (.cells z8 t fr)) (cs:Array Value):∀{d:Nat} {v:Value},dE w e d v->dE (w.setRow R cs) e d v
 | 0,_,h=>h
 | d+1,v,⟨p,u,h1,h2,h3,h4⟩=>by
   refine⟨p,u,h1,by simpa [World.setRow]using h2,?_,dE.setRow hr cs h4⟩
   have dG:p≠R:=by
    rintro rfl;obtain⟨t0,x0,hi⟩:=h4.iface;have:w.cell? ⟨p,1,none⟩=some (.int .u16 0):=by simp only[World.cell?,hr];rfl
    rw[h3,hi]at this;cases this
   have:=setRow_other w R p cs dG;simp only[World.cell?]at h3⊢;rw[this];exact h3
theorem qX {w wx:World} {v:Value} (hb:Below w.heap.size w wx) (hr:wx.heap[w.heap.size]? =some (.cells z8 230 (0,0))) (hf:dE wx 72 1 v):Vt none w (.returned (.tuple #[.agg z8,v])) (wx.setRow w.heap.size z8):=
 ⟨below_setRow hb (Nat.le_refl _) _,_,rfl,hf.setRow hr _⟩
theorem Bl {w wx:World} {s:ByteArray} {t:TypeId} {fr:Nat×Nat} (hb:Below w.heap.size w wx) (aN:w.heap.size<wx.heap.size) (hr:wx.heap[w.heap.size]? =some (.cells z8 230 (0,0))):
  Vt none w (.returned (.tuple #[.agg z8,.iface 225 (.pointer (some ⟨wx.heap.size,0,none⟩))])) ((wx.alloc (.cells #[.string s,.iface 27 (.int .i64 72)] t fr)).setRow w.heap.size z8):=
 qX (hb.alloc hb.size _) (by rw[heap_alloc_old _ _ aN];exact hr) (fM rfl)
def Rx (sh:Bool):Option (List Nat)->Option (List Nat)->Option (List Nat)
 | some x,some y=>if(if sh then decide (8<=x.length+y.length)else !(x.length+y.length==8))then none else some (x++List.replicate (8-x.length-y.length) 0++y)
 | _,_=>none
theorem QQ (s:List UInt8):Lz.iI s=if(!(Lib.cut s [58,58]).2.2&&s.isEmpty)||Lib.hasPrefix (Lib.cut s [58,58]).2.1 [58]then none else Rx (Lib.cut s [58,58]).2.2 (Lz.eM (Lib.cut s [58,58]).1 (!(Lib.cut s [58,58]).2.2)) (Lz.eM (Lib.cut s [58,58]).2.1 true):=by
 unfold Lz.iI;simp only;split
 ·rfl
 ·generalize Lz.eM (Lib.cut s [58,58]).1 (!(Lib.cut s [58,58]).2.2)=a;generalize Lz.eM (Lib.cut s [58,58]).2.1 true=b;cases a with
  | none=>rfl
  | some x=>cases b with
    | none=>rfl
    | some y=>
      unfold Rx;simp only;cases (Lib.cut s [58,58]).2.2
      ·simp only[Bool.false_eq_true,if_false];by_cases h:x.length+y.length=8
       ·rw[if_pos h,h];have:8-x.length-y.length=0:=by omega
        rw[this];simp
       ·rw[if_neg h];have:(x.length+y.length==8)=false:=beq_eq_false_iff_ne.2 h;rw[this];rfl
      ·simp
theorem yT (s:ByteArray) (hs:s.size<=1048576) (w:World) (hE:de w):Calls Tryz.prog 236 #[.string s] w (Vt (Lz.iI s.data.toList) w):=by
 have cC:=fun W hW=>C7 s ⟨#[58,58]⟩ (by omega) W hW
 have qA:(Lib.cut s.data.toList [58,58]).1.length<=s.size/\(Lib.cut s.data.toList [58,58]).2.1.length<=s.size:=by
  unfold Lib.cut;split
  ·simp only[List.length_take,List.length_drop,aa];omega
  ·exact⟨Nat.le_refl _,Nat.zero_le _⟩
 obtain⟨RK,Sg⟩:=qA;have hS:=QQ s.data.toList;rw[show(ByteArray.data ⟨#[58,58]⟩).toList=([58,58]:List UInt8)from rfl]at cC;generalize Lib.cut s.data.toList [58,58]=c at cC RK Sg hS;obtain⟨c1,c2,sh⟩:=c;simp only at cC RK Sg hS;have CC:=Ih cC;have HS:=Ih hS;have YZ:=Ih RK;have Zq:=Ih Sg;clear cC hS RK Sg;go_enter Tryz.func236,Tryz.ntmps236
 go_upto_region 1 with fail
 generalize hwx:w.alloc _=wx;have Z7:wx=w.alloc (.cells z8 230):=by rw[<-hwx];rfl
 have K5:wx.heap[w.heap.size]? =some (.cells z8 230 (0,0)):=by rw[Z7];exact heap_alloc_new w _
 have ek:Below w.heap.size w wx:=by rw[Z7];exact(Below.refl _ w).alloc (Nat.le_refl _) _
 have ig:w.heap.size<wx.heap.size:=by rw[Z7];simp
 clear hwx Z7
 go_wp2_with fail
 refine(CC.out _ (hE.below ek)).mono ?_;rintro e w1 ⟨fr,bk,rfl,sD,vU,aC⟩;have oU:w1.heap[w.heap.size]? =some (.cells z8 230 (0,0)):=by rw[aC.block _ ig];exact K5
 have fF:=ac ek aC;have fs:w.heap.size<w1.heap.size:=Nat.lt_of_lt_of_le ig aC.size;have hfz:fr.size<=s.size:=by rw[<-aa fr,sD.out];exact YZ.out
 have Ai:bk.size<=s.size:=by rw[<-aa bk,vU.out];exact Zq.out
 obtain⟨pb,vY⟩:∃pb,pb=Lib.hasPrefix bk.data.toList [58]:=⟨_,rfl⟩;obtain⟨q,hq⟩:∃q,q=((!sh&&s.data.toList.isEmpty)||pb):=⟨_,rfl⟩
 have xa:Hid (Lz.iI s.data.toList=if q then none else Rx sh (Lz.eM fr.data.toList (!sh)) (Lz.eM bk.data.toList true)):=by
  show _=_;rw[HS.out,sD.out,vU.out,hq,vY,vU.out]
 have cP:=fun W=>iz bk ⟨#[58]⟩ W;rw[show Lib.hasPrefix bk.data.toList (ByteArray.data ⟨#[58]⟩).toList=pb from vY.symm]at cP;have CP:=Ih cP;have Hq:=Ih hq;have O7:=Ih oU;clear HS YZ Zq CC ek ig K5 aC cP vY hq oU
 go_upto_region 2 with fail
 go_cut [25] (fun s25 wc=>s25=.bool q/\w1=wc)
 case first=>
  have call:pb=true\/pb=false:=by cases pb<;>simp
  cases sh
  ·by_cases hz:s.size=0
   ·have he:=ak hz;have HQ:Hid (q=true):=by show _=_;rw[Hq.out,<-Lib.toList_data,he];rfl
    go_wp2_with fail
    go_meet;exact⟨by rw[HQ.out],rfl⟩
   ·have he:=aj (s:=s) (by omega);have HQ:Hid (q=pb):=by show _=_;rw[Hq.out,<-Lib.toList_data,he];rfl
    go_wp2_with fail
    refine(CP.out _).mono ?_;rintro e w' ⟨rfl,rfl⟩
    go_wp2_with fail
    go_meet;exact⟨by rw[HQ.out],rfl⟩
  ·have HQ:Hid (q=pb):=by show _=_;rw[Hq.out];rfl
   go_wp2_with fail
   refine(CP.out _).mono ?_;rintro e w' ⟨rfl,rfl⟩
   go_wp2_with fail
   go_meet;exact⟨by rw[HQ.out],rfl⟩
 case rest=>
  obtain⟨rfl,rfl⟩:=hcut;clear CP Hq;cases q
  ·have Xs:Hid (Lz.iI s.data.toList=Rx sh (Lz.eM fr.data.toList (!sh)) (Lz.eM bk.data.toList true)):=by show _=_;rw[xa.out];rfl
   have cX:=fun W hW=>GH fr (!sh) (by omega) W hW;have cY:=fun W hW=>GH bk true (by omega) W hW;have KM:=fun l (h:Lz.eM fr.data.toList (!sh)=some l)=>Lz.Cw h;have XB:=fun l (h:Lz.eM bk.data.toList true=some l)=>Lz.Cw h;rw[aa]at KM XB;generalize Lz.eM fr.data.toList (!sh)=ox at cX Xs KM;generalize Lz.eM bk.data.toList true=oy at cY Xs XB;have Hlx:=Ih KM;have Hly:=Ih XB;clear KM XB;have CX:=Ih cX;have CY:=Ih cY;clear cX cY xa sD vU
   go_wp2_with fail
   refine(CX.out _ (hE.below fF)).mono ?_;rintro e w2 ⟨aU,bt⟩;have sS:=ac fF aU;have fk:w.heap.size<w2.heap.size:=Nat.lt_of_lt_of_le fs aU.size;have Pw:Hid (w2.heap[w.heap.size]? =some (.cells z8 230 (0,0))):=by show _=_;rw[aU.block _ fs];exact O7.out
   cases ox with
   | none=>
     obtain⟨v,rfl,rG⟩:=bt;have DI:=Ih rG;obtain⟨p,u,rfl,_,_,_⟩:=rG;have HN:Hid (Lz.iI s.data.toList=none):=by show _=_;rw[Xs.out];rfl
     go_wp2_with (refine im rfl _ _ rfl w.heap.size rfl z8 rfl ur rfl z8 Pw.out rfl ?_)
     refine bodyPost_ret (bH rfl _ _ w.heap.size _ z8 (0,0) _ rfl (setRow_heap _ _ _ _ _ _ Pw.out) Tryz.underlying230 rfl ix) rfl ?_;rw[HN.out];exact qX sS Pw.out DI.out
   | some x=>
   obtain⟨vx,ab3,rfl,rB,O6⟩:=bt;clear O7 aU CX
   go_wp2_with fail
   refine(CY.out _ (hE.below sS)).mono ?_;rintro e w3 ⟨cq,bt⟩;have nL:=ac sS cq;have hz3:w.heap.size<w3.heap.size:=Nat.lt_of_lt_of_le fk cq.size;have TB:Hid (w3.heap[w.heap.size]? =some (.cells z8 230 (0,0))):=by show _=_;rw[cq.block _ fk];exact Pw.out
   cases oy with
   | none=>
     obtain⟨v,rfl,rG⟩:=bt;have DI:=Ih rG;obtain⟨p,u,rfl,_,_,_⟩:=rG;have HN:Hid (Lz.iI s.data.toList=none):=by show _=_;rw[Xs.out];rfl
     clear O6
     go_wp2_with (refine im rfl _ _ rfl w.heap.size rfl z8 rfl ur rfl z8 TB.out rfl ?_)
     refine bodyPost_ret (bH rfl _ _ w.heap.size _ z8 (0,0) _ rfl (setRow_heap _ _ _ _ _ _ TB.out) Tryz.underlying230 rfl ix) rfl ?_;rw[HN.out];exact qX nL TB.out DI.out
   | some y=>
   obtain⟨vy,Zo,rfl,V4,hoy⟩:=bt;have KM:=Hlx.out x rfl;have XB:=Hly.out y rfl;have acm:x.length<=1048578:=by omega
   have acE:y.length<=1048578:=by omega
   have hgy:w.heap.size<Zo:=by omega
   obtain⟨ax,cx,rfl,Y6⟩:=Gx (dm O6 cq);obtain⟨ay,cy,rfl,ZR⟩:=Gx hoy;have HX2:=Ih Y6;have Xw:=Ih ZR;obtain⟨r,Ix⟩:∃r,r=(if sh then decide (8<=x.length+y.length)else !(x.length+y.length==8)):=⟨_,rfl⟩;have HS4:Hid (Lz.iI s.data.toList=if r then none else some (x++List.replicate (8-x.length-y.length) 0++y)):=by show _=_;rw[Xs.out,Ix];rfl
   have hr8:r=false->x.length+y.length<=8:=by
    intro h;rw[Ix]at h;cases sh
    ·simp at h;omega
    ·simp at h;omega
   have Hrr:=Ih Ix;have Hr8:=Ih hr8;clear O6 hoy Pw Y6 ZR CY Ix hr8 Xs cq hfz Ai rB V4 KM XB Hlx Hly
   go_upto_region 11 with fail
   go_cut [68] (fun s68 wc=>s68=.bool r/\w3=wc)
   case first=>
    cases sh
    ·by_cases h8:x.length+y.length=8
     ·have Zp:((x.length:Int)+(y.length:Int) != 8)=false:=by
       have:(x.length:Int)+(y.length:Int)=8:=by omega
       rw[this];rfl
      have HQ:Hid (r=false):=by show _=_;rw[Hrr.out,h8];rfl
      clear h8
      go_wp2_with fail
      go_meet;exact⟨by rw[HQ.out],rfl⟩
     ·have Zp:((x.length:Int)+(y.length:Int) != 8)=true:=by simp;omega
      have HQ:Hid (r=true):=by show _=_;rw[Hrr.out];simp[h8]
      clear h8
      go_wp2_with fail
      go_meet;exact⟨by rw[HQ.out],rfl⟩
    ·by_cases h8:8<=x.length+y.length
     ·have Zp:(8:Int)<=(x.length:Int)+(y.length:Int):=by omega
      have hd8:decide ((8:Int)<=(x.length:Int)+(y.length:Int))=true:=decide_eq_true Zp;have HQ:Hid (r=true):=by show _=_;rw[Hrr.out];simp[h8]
      go_wp2_with fail
      go_meet;exact⟨by rw[HQ.out],rfl⟩
     ·have Zp:¬(8:Int)<=(x.length:Int)+(y.length:Int):=by omega
      have hd8:decide ((8:Int)<=(x.length:Int)+(y.length:Int))=false:=decide_eq_false Zp;have HQ:Hid (r=false):=by show _=_;rw[Hrr.out];simp;omega
      go_wp2_with fail
      go_meet;exact⟨by rw[HQ.out],rfl⟩
   case rest=>
    obtain⟨rfl,rfl⟩:=hcut;clear Hrr;cases r
    ·have hxy:=Hr8.out rfl;have HS5:Hid (Lz.iI s.data.toList=some (x++List.replicate (8-x.length-y.length) 0++y)):=by show _=_;rw[HS4.out];rfl
     have ey:∀W,(Instr.sliceAt 230 (.pointer (some ⟨w.heap.size,0,none⟩)) none none none).run Tryz.prog W=.ok (.slice (some ⟨w.heap.size,0,none⟩) 8 8) W:=fun W=>by
      rw[run_sliceAt_array_all W 230 ⟨w.heap.size,0,none⟩ (by simp[Program.arrayLen,Program.elem,Tryz.underlying230])];rw[pj];go_simp
     obtain⟨t,ht⟩:∃t:Nat,t=8-y.length:=⟨_,rfl⟩;have ht8:t<=8:=by omega
     have htI:(8:Int)-(y.length:Int)=(t:Int):=by omega
     obtain⟨a2,sD,vO⟩:=Bb w.heap.size t ht8;have Wx:(dK x).length=x.length:=by simp[dK]
     have hlv:(dK y).length=y.length:=by simp[dK]
     have Dv:(dK x).length=Nat.min x.length 8:=by rw[Wx];exact(Nat.min_eq_left (by omega)).symm
     have hny:(dK y).length=Nat.min y.length (8-t):=by rw[hlv];exact(Nat.min_eq_left (by omega)).symm
     have KZ:∀l:List Nat,∀v∈dK l,v.oneCell'=true:=by
      intro l v hv;obtain⟨n,_,rfl⟩:=List.mem_map.1 hv;rfl
     have oY:0<(dK x).length->(some ⟨w.heap.size,0,none⟩:Option Addr)=some ⟨w.heap.size,0,none⟩/\∃ad,ax=some ad/\∀j v,(dK x)[j]? =some v->w3.cell? (ad.add j)=some v:=fun h=>by
      obtain⟨g,h1,_,h2⟩:=HX2.out (by omega);exact⟨rfl,_,h1,fun j v hj=>by rw[fa];exact h2 j v hj⟩
     have AD:=setRow_heap w3 w.heap.size z8 (splice z8.toList 0 (dK x)).toArray 230 (0,0) TB.out
     have hcy:0<(dK y).length->a2=some ⟨w.heap.size,t,none⟩/\∃ad,ay=some ad/\∀j v,(dK y)[j]? =some v->(w3.setRow w.heap.size (splice z8.toList 0 (dK x)).toArray).cell? (ad.add j)=some v:=fun h=>by
      obtain⟨g,h1,hg,h2⟩:=Xw.out (by omega);exact⟨vO (by omega),_,h1,fun j v hj=>by rw[fa,A0 _ _ _ _ _ (by omega)];exact h2 j v hj⟩
     have F8:=below_setRow nL (Nat.le_refl _) (splice z8.toList 0 (dK x)).toArray;have Xp:z8.toList.length=8:=rfl;have Do:0+(dK x).length<=z8.toList.length:=by rw[Wx,Xp];omega
     have Aq:(splice z8.toList 0 (dK x)).length=8:=by rw[length_splice _ _ _ Do,Xp]
     have rG:t+(dK y).length<=(splice z8.toList 0 (dK x)).length:=by rw[Aq,hlv];omega
     have nj:splice (splice z8.toList 0 (dK x)) t (dK y)=dK (x++List.replicate (8-x.length-y.length) 0++y):=by
      have hz:z8.toList=List.replicate 8 (Value.int .u16 0):=rfl;unfold splice;rw[hz,Wx,hlv,Nat.zero_add,List.take_zero,List.nil_append,List.drop_replicate];rw[List.take_append,List.drop_append,(show(dK x).take t=dK x from List.take_of_length_le (by rw[Wx];omega)),(show(dK x).drop (t+y.length)=[]from List.drop_eq_nil_of_le (by rw[Wx];omega)),Wx,List.take_replicate,List.drop_replicate];rw[show 8-x.length-(t+y.length-x.length)=0 by omega,show min (t-x.length) (8-x.length)=8-x.length-y.length by omega]
      simp[dK]
     have Ht:=Ih ht;have fZ:=Ih ey;have XF:=Ih sD;have Hcx:=Ih oY;have Hcy:=Ih hcy;have Xu:=Ih AD;have Hnx:=Ih Dv;have Hny:=Ih hny;have Hfx:=Ih Do;have DI:=Ih rG;have V9:=Ih KZ;have SH:=Ih nj;clear oY hcy AD Dv hny Do rG KZ nj Aq Xp Wx hlv vO HX2 Xw HS4 Hr8 sD ey ht
     go_upto_region 13 with fail
     have ey:=fZ.out;have sD:=XF.out
     go_upto_region 15 with(first |(refine lO rfl (.tmp 74) (.tmp 75) 261 261 rfl 228 Tryz.underlying261 GW (some ⟨w.heap.size,0,none⟩) ax 8 8 x.length cx rfl rfl w.heap.size 0 z8.toList 230 TB.out (dK x) Hnx.out Hcx.out Hfx.out (V9.out x) ?_)|(refine lO rfl (.tmp 80) (.tmp 81) 261 261 rfl 228 Tryz.underlying261 GW a2 ay (8-t) (8-t) y.length cy rfl rfl w.heap.size t (splice z8.toList 0 (dK x)) 230 Xu.out (dK y) Hny.out Hcy.out DI.out (V9.out y) ?_))
     rw[SH.out];have Wt:(x++List.replicate (8-x.length-y.length) 0++y).length=8:=by simp;omega
     have Ov:(dK (x++List.replicate (8-x.length-y.length) 0++y)).toArray.all (·.oneCell')=true:=by
      simp[dK,Value.oneCell']
     generalize x++List.replicate (8-x.length-y.length) 0++y=al at HS5 Wt Ov⊢;have hr5:=setRow_heap _ w.heap.size _ (dK al).toArray 230 (0,0) Xu.out;have hx5:=below_setRow F8 (Nat.le_refl _) (dK al).toArray;have hl8:(dK al).toArray.size=8:=by simp[dK,Wt]
     have Y1:(Tryz.prog.info? 230).map (·.size)=some (dK al).toArray.size:=by rw[ix,hl8]
     generalize (w3.setRow w.heap.size (splice z8.toList 0 (dK x)).toArray).setRow w.heap.size (dK al).toArray=w5 at hr5 hx5⊢;have Hr5:=Ih hr5;have Hi8:=Ih Y1;have Hl8:=Ih hl8;have Zv:=Ih Ov;clear fZ ey XF Hcx Hcy Xu Hnx Hny Hfx DI V9 SH Ht sD htI hr5 Y1 hl8 Ov Wt F8 TB nL hz3
     go_wp2_with (first |(refine wpList_load_row rfl 230 _ rfl w.heap.size rfl 230 _ (0,0) _ Hr5.out Tryz.underlying230 rfl Hi8.out ?_)|(refine im rfl _ _ rfl w.heap.size rfl (dK al).toArray Hl8.out Zv.out rfl (dK al).toArray Hr5.out Hl8.out ?_))
     refine bodyPost_ret (bH rfl _ _ w.heap.size _ (dK al).toArray (0,0) _ rfl (setRow_heap _ _ _ _ _ _ Hr5.out) Tryz.underlying230 rfl Hi8.out) rfl ?_;rw[HS5.out];exact⟨below_setRow hx5 (Nat.le_refl _) _,rfl⟩
    ·have HN:Hid (Lz.iI s.data.toList=none):=by show _=_;rw[HS4.out];rfl
     have AD:∀o,(w3.alloc o).heap[w.heap.size]? =some (.cells z8 230 (0,0)):=fun o=>by rw[heap_alloc_old _ _ hz3];exact TB.out
     have Xu:=Ih AD;clear AD
     go_wp2_with (refine im rfl _ _ rfl w.heap.size rfl z8 rfl ur rfl z8 (Xu.out _) rfl ?_)
     refine bodyPost_ret (bH rfl _ _ w.heap.size _ z8 (0,0) _ rfl (setRow_heap _ _ _ _ _ _ (Xu.out _)) Tryz.underlying230 rfl ix) rfl ?_;rw[HN.out];exact Bl nL hz3 TB.out
  ·have HN:Hid (Lz.iI s.data.toList=none):=by show _=_;rw[xa.out];rfl
   have qB:∀o,(w1.alloc o).heap[w.heap.size]? =some (.cells z8 230 (0,0)):=fun o=>by rw[heap_alloc_old _ _ fs];exact O7.out
   have Pw:=Ih qB;clear qB
   go_wp2_with (refine im rfl _ _ rfl w.heap.size rfl z8 rfl ur rfl z8 (Pw.out _) rfl ?_)
   refine bodyPost_ret (bH rfl _ _ w.heap.size _ z8 (0,0) _ rfl (setRow_heap _ _ _ _ _ _ (Pw.out _)) Tryz.underlying230 rfl ix) rfl ?_;rw[HN.out];exact Bl fF fs O7.out
def NA (r:Lz.Res) (w:World) (e:Ending) (w':World):Prop:=
 Below w.heap.size w w'/\match r with
  | .ok t=>∃u:ByteArray,e=.returned (.tuple #[.string u,.nilIface])/\Hid (u.data.toList=t)
  | .er n=>∃v d,d<=2/\e=.returned (.tuple #[.string ⟨#[]⟩,v])/\dE w' (n:Int) d v
theorem jk {w wx:World} {s:ByteArray} {n:Nat} {v:Value} {d:Nat} {t:TypeId} {fr:Nat×Nat} (hb:Below w.heap.size w wx) (hv:dE wx (n:Int) d v) (hd:d<=1):
  NA (.er n) w (.returned (.tuple #[.string ⟨#[]⟩,.iface 225 (.pointer (some ⟨wx.heap.size,0,none⟩))])) (wx.alloc (.cells #[.string s,v] t fr)):=
 ⟨hb.alloc hb.size _,_,_,Nat.succ_le_succ hd,rfl,fM hv⟩
theorem oE:∀l:List UInt8,(Lz.an l).length<=l.length:=by
 intro l
 induction h:l.length using Nat.strongRecOn generalizing l with
 | ind n ih=>
   cases l with
   | nil=>rw[Lz.an];simp
   | cons c r=>
     rw[Lz.an];simp only[List.length_cons]at h;split
     ·have:=ih (r.drop 2).length (by simp;omega) (r.drop 2) rfl
      simp at this⊢;omega
     ·have:=ih r.length (by omega) r rfl
      simp;omega
theorem Ef (s:ByteArray) (hs:s.size<=900000) (w:World) (hE:de w):Calls Tryz.prog 238 #[.string s] w (NA (Lz.eC s.data.toList) w):=by
 have Ou:=oE s.data.toList;rw[aa]at Ou;have HP:Hid (Lz.eC s.data.toList=if Lz.low (Lz.an s.data.toList)=[]\/(Lz.low (Lz.an s.data.toList)).any Lz.jM=true then .er 70 else if Lz.bh (Lz.low (Lz.an s.data.toList))then Lz.ofO 71 (Lz.dJ (Lz.br (Lz.low (Lz.an s.data.toList))))else .ok (Lz.low (Lz.an s.data.toList))):=Ih rfl;have Hdl:=Ih Ou;clear Ou;go_enter Tryz.func238,Tryz.ntmps238
 go_wp2_with fail
 refine(oG s (by omega) _).mono ?_;rintro e w1 ⟨d0,rfl,WP,aC⟩;have abn:d0.size<=s.size:=by rw[<-aa d0,WP.out];exact Hdl.out
 go_wp2_with fail
 refine(j4 d0 (by omega) _).mono ?_;rintro e w2 ⟨d,rfl,hd,aU⟩;have hdz:d.size<=s.size:=by rw[<-aa d,hd.out,gj,aa];exact abn
 have HQ:Hid (Lz.eC s.data.toList=if d.data.toList=[]\/d.data.toList.any Lz.jM=true then .er 70 else if Lz.bh d.data.toList then Lz.ofO 71 (Lz.dJ (Lz.br d.data.toList))else .ok d.data.toList):=by
  show _=_;rw[HP.out,hd.out,WP.out]
 have sS:=ac aC aU;clear HP Hdl WP hd aC aU
 go_wp2_with fail
 refine(wI d _).mono ?_;rintro e w3 ⟨i,rfl,hi,cq⟩;have nL:=ac sS cq;by_cases qG:d.data.toList=[]\/d.data.toList.any Lz.jM=true
 ·have HN:Hid (Lz.eC s.data.toList=.er 70):=by show _=_;rw[HQ.out,if_pos qG]
  by_cases hz:d.size=0
  ·have he:=ak hz;clear qG HQ
   go_wp2
   go_ret2
   rw[HN.out];exact jk (d:=0) nL rfl (by omega)
  ·have he:=aj (s:=d) (by omega)
   have nP:0<=i:=by
    have h1:=hi.out;rcases qG with h|h
    ·exact absurd (by rw[<-aa,h];rfl) hz
    ·rw[h]at h1;exact of_decide_eq_true h1
   clear qG HQ
   go_wp2
   go_ret2
   rw[HN.out];exact jk (d:=0) nL rfl (by omega)
 ·have dG:d.data.toList≠[]:=fun h=>qG (Or.inl h);have aah:0<d.size:=by rw[<-aa];exact List.length_pos_iff.2 dG
  have he:=aj aah
  have nP:¬0<=i:=by
   intro h;have h1:=hi.out;rw[decide_eq_true h]at h1;exact qG (Or.inr h1.symm)
  have KU:Hid (Lz.eC s.data.toList=if Lz.bh d.data.toList then Lz.ofO 71 (Lz.dJ (Lz.br d.data.toList))else .ok d.data.toList):=by
   show _=_;rw[HQ.out,if_neg qG]
  have cN:=pZ d (by omega) w3 (hE.below nL);generalize Lz.bh d.data.toList=nb at cN KU;have CN:=Ih cN;clear qG dG HQ cN
  go_wp2_with fail
  refine(CN.out).mono ?_;rintro e w4 ⟨rfl,ex⟩;have F8:=ac nL ex;cases nb
  ·have HN:Hid (Lz.eC s.data.toList=.ok d.data.toList):=by show _=_;rw[KU.out];rfl
   go_wp2
   go_ret2
   rw[HN.out];exact⟨F8,d,rfl,Ih rfl⟩
  ·have HN:Hid (Lz.eC s.data.toList=Lz.ofO 71 (Lz.dJ (Lz.br d.data.toList))):=by show _=_;rw[KU.out];rfl
   go_wp2_with fail
   refine(vz d (by omega) _ (hE.below F8)).mono ?_;rintro e w5 ⟨xs,b,cap,rfl,nk,ei,bv,Aq,dV,hT,dB⟩;have hx5:=ac F8 dB;have cF:=Lv b cap xs ei (by omega) (fun x hx=>by have:=dV x hx;omega) w5 (hE.below hx5) hT;have iF:Hid (Lz.eC s.data.toList=Lz.ofO 71 (Lz.dJ (xs.map (·.data.toList)))):=by show _=_;rw[HN.out,Aq.out]
   generalize Lz.dJ (xs.map (·.data.toList))=o at cF iF;have CF:=Ih cF;clear cF dV hT Aq HN KU ei bv nk dB
   go_wp2_with fail
   refine(CF.out).mono ?_;rintro e w6 ⟨kW,bt⟩;have hx6:=ac hx5 kW;cases o with
   | none=>
     obtain⟨v,dd,kR,rfl,rG⟩:=bt;have DI:=Ih rG;clear rG
     go_wp2
     go_ret2
     rw[iF.out];exact⟨hx6,v,dd,kR,rfl,DI.out⟩
   | some t=>
     obtain⟨u,rfl,hu⟩:=bt
     go_wp2
     go_ret2
     rw[iF.out];exact⟨hx6,u,rfl,hu⟩
def Qa (s:ByteArray):Prop:=∀W,de W->Calls Tryz.prog 239 #[.string s,.string lh] W (cn (s.data.toList.any Lz.eG.contains) W)
theorem T6:Lz.jU 0=[]:=rfl
theorem vi (s:List UInt8) (c:UInt8):Lib.hasPrefix s [c]=decide (s[0]? =some c):=by
 unfold Lib.hasPrefix;cases s with
 | nil=>rfl
 | cons b r=>
   rw[Lz.lE];by_cases h:c=b
   ·rw[h];simp
   ·have h1:(c==b)=false:=beq_eq_false_iff_ne.2 h;rw[h1,decide_eq_false];intro h2;exact h (Option.some.inj h2).symm
theorem Bt (a:List Nat) (h8:a.length=8) (hl:∀n∈a,n<65536):(Lz.ef a).length<=100:=by
 unfold Lz.ef;have h1:=mQ a hl (by omega);have h2:=mQ (a.take (Lz.fT 0 a (0,0)).1) (fun n hn=>hl n (List.mem_of_mem_take hn)) (by rw[List.length_take];omega);have h3:=mQ (a.drop (Lz.fT 0 a (0,0)).2) (fun n hn=>hl n (List.mem_of_mem_drop hn)) (by rw[List.length_drop];omega);split
 ·omega
 ·rw[List.length_append,List.length_append];show _+2+_<=_;omega
theorem Jf (s:ByteArray) (dk:Bool) (hs:s.size<=900000) (Xy:dk=false->s.data.toList[0]? ≠some 91->Qa s) (w:World) (hE:de w):Calls Tryz.prog 199 #[.string s,.bool dk] w (NA (Lz.aD s.data.toList dk) w):=by
 obtain⟨q,hq⟩:∃q,q=decide (s.data.toList[0]? =some 91):=⟨_,rfl⟩;have cP:=fun W=>iz s ⟨#[91]⟩ W;rw[show Lib.hasPrefix s.data.toList (ByteArray.data ⟨#[91]⟩).toList=q by rw[hq];exact vi _ _]at cP;have CP:=Ih cP;have Hq:=Ih hq;have Hca:=Ih Xy;clear cP hq Xy;cases q
 ·have vS:s.data.toList[0]? ≠some 91:=of_decide_eq_false Hq.out.symm;cases dk
  ·have HP:Hid (Lz.aD s.data.toList false=if s.data.toList.any Lz.eG.contains then .er 70 else .ok (Lz.ah [] s.data.toList)):=by
    show _=_;unfold Lz.aD;rw[if_neg vS];rfl
   have cA:=Hca.out rfl vS;unfold Qa at cA;generalize s.data.toList.any Lz.eG.contains=bad at cA HP;have CA:=Ih cA;clear cA vS;go_enter Tryz.func199,Tryz.ntmps199
   go_wp2_with fail
   refine(CP.out _).mono ?_;rintro e w' ⟨rfl,rfl⟩
   go_wp2_with fail
   refine(CA.out _ hE).mono ?_;rintro e w1 ⟨rfl,aC⟩;cases bad
   ·have HN:Hid (Lz.aD s.data.toList false=.ok (Lz.ah [] s.data.toList)):=by show _=_;rw[HP.out];rfl
    go_wp2_with fail
    refine(eR 0 (by omega) s (by omega) _).mono ?_;rintro e w2 ⟨u,rfl,hu,aU⟩
    go_wp2
    go_ret2
    rw[HN.out];exact⟨ac aC aU,u,rfl,Ih (by rw[hu.out,T6])⟩
   ·have HN:Hid (Lz.aD s.data.toList false=.er 70):=by show _=_;rw[HP.out];rfl
    go_wp2
    go_ret2
    rw[HN.out];exact jk (d:=0) aC rfl (by omega)
  ·have HP:Hid (Lz.aD s.data.toList true=Lz.eC s.data.toList):=by
    show _=_;unfold Lz.aD;rw[if_neg vS];rfl
   have cD:=Ef s hs w hE;generalize Lz.eC s.data.toList=r at cD HP;have CD:=Ih cD;clear cD vS;go_enter Tryz.func199,Tryz.ntmps199
   go_wp2_with fail
   refine(CP.out _).mono ?_;rintro e w' ⟨rfl,rfl⟩
   go_wp2_with fail
   refine(CD.out).mono ?_;rintro e w1 ⟨aC,bt⟩;cases r with
   | ok t=>
     obtain⟨u,rfl,hu⟩:=bt
     go_wp2
     go_ret2
     rw[HP.out];exact⟨aC,u,rfl,hu⟩
   | er n=>
     obtain⟨v,dd,kR,rfl,rG⟩:=bt;have DI:=Ih rG;clear rG
     go_wp2
     go_ret2
     rw[HP.out];exact⟨aC,v,dd,kR,rfl,DI.out⟩
 ·have vS:s.data.toList[0]? =some 91:=of_decide_eq_true Hq.out.symm;have ei:0<s.size:=by rw[<-aa];exact(List.getElem?_eq_some_iff.1 vS).1
  have HP:Hid (Lz.aD s.data.toList dk=if s.data.toList.length<2\/s.data.toList.getLast? ≠some 93 then .er 72 else Lz.ofO 72 ((Lz.iI ((s.data.toList.drop 1).dropLast)).map fun a=>[91]++Lz.ef a++[93])):=by
   show _=_;unfold Lz.aD;rw[if_pos vS]
  by_cases h2:s.size<2
  ·have HN:Hid (Lz.aD s.data.toList dk=.er 72):=by show _=_;rw[HP.out,if_pos (Or.inl (by rw[aa];exact h2))]
   have F6:(s.size:Int)<2:=by omega
   have Ip:decide ((s.size:Int)<2)=true:=decide_eq_true F6;go_enter Tryz.func199,Tryz.ntmps199
   go_wp2_with fail
   refine(CP.out _).mono ?_;rintro e w' ⟨rfl,rfl⟩
   go_wp2
   go_ret2
   rw[HN.out];exact jk (d:=0) (Below.refl _ _) rfl (by omega)
  ·have F6:¬(s.size:Int)<2:=by omega
   have Ip:decide ((s.size:Int)<2)=false:=decide_eq_false F6;obtain⟨k,hk⟩:∃k,k=s.size-1:=⟨_,rfl⟩;have kq:(s.size:Int)-1=(k:Int):=by omega
   have Lr:k<s.size:=by omega
   have Sm:(k:Int)<s.size:=by omega
   have iN:(0:Int)<=k:=by omega
   have Xh:(1:Int)<=k:=by omega
   have VR:(k:Int)<=s.size:=by omega
   have fu:s.data.toList.getLast? =some s[k]:=by
    rw[List.getLast?_eq_getElem?,aa,<-hk];exact aw Lr
   have Hk:=Ih hk;have Dz:=Ih fu;clear hk fu;by_cases KR:s[k]=93
   ·have abD:((s[k].toNat:Int) != 93)=false:=by rw[KR];rfl
    have yG:Hid ((s.extract 1 k).data.toList=(s.data.toList.drop 1).dropLast):=by
     show _=_;rw[Lib.extract_data,List.dropLast_eq_take,List.length_drop,aa,Hk.out]
    have abb:(s.extract 1 k).size<=900000:=by have:=aJ s 1 k;omega
    have HN:Hid (Lz.aD s.data.toList dk=Lz.ofO 72 ((Lz.iI (s.extract 1 k).data.toList).map fun a=>[91]++Lz.ef a++[93])):=by
     show _=_;rw[HP.out,if_neg (by rw[aa,Dz.out,KR];simp;omega),yG.out]
    have cX:=yT (s.extract 1 k) (by omega) w hE;have l6:=fun a=>Lz.oP (s:=(s.extract 1 k).data.toList) (a:=a);generalize Lz.iI (s.extract 1 k).data.toList=o at cX HN l6;have CX:=Ih cX;have FX:=Ih l6;clear cX l6 KR HP h2 yG abb;go_enter Tryz.func199,Tryz.ntmps199
    go_wp2_with fail
    refine(CP.out _).mono ?_;rintro e w' ⟨rfl,rfl⟩
    go_wp2_with fail
    refine(CX.out).mono ?_;rintro e w1 ⟨aC,bt⟩;have oU:∀o,(w1.alloc o).heap[w1.heap.size]? =some o:=fun o=>heap_alloc_new w1 o;have O7:=Ih oU;clear oU;cases o with
    | none=>
      obtain⟨v,rfl,rG⟩:=bt;have ZG:=fun o=>rG.below ((Below.refl _ w1).alloc (Nat.le_refl _) o);have DI:=Ih rG;have aam:=Ih ZG;clear ZG;obtain⟨p,u,rfl,_,_,_⟩:=rG;have iF:Hid (Lz.aD s.data.toList dk=.er 72):=by show _=_;rw[HN.out];rfl
      clear HN
      go_upto_region 5 with(refine im rfl _ _ rfl w1.heap.size rfl z8 rfl ur rfl _ (O7.out _) rfl ?_)
      generalize oZ:(w1.alloc _).setRow w1.heap.size z8=w2;have fW:dE w2 72 1 (.iface 225 (.pointer (some ⟨p,0,none⟩))):=by rw[<-oZ];exact(aam.out _).setRow (O7.out (.cells z8 230)) z8
      have aU:Below w.heap.size w w2:=by rw[<-oZ];exact below_setRow (aC.alloc aC.size _) aC.size _
      clear oZ DI aam O7 CX
      go_wp2
      go_ret2
      rw[iF.out];exact jk (n:=72) (d:=1) aU fW (by omega)
    | some a=>
      obtain rfl:=bt;obtain⟨ha8,jQ⟩:=FX.out a rfl;have iF:Hid (Lz.aD s.data.toList dk=.ok ([91]++Lz.ef a++[93])):=by show _=_;rw[HN.out];rfl
      have kl:=Bt a ha8 jQ;have cT:=fun W hW=>MR a ha8 jQ W hW;unfold Fv at cT;unfold Fv;obtain⟨cs,iV⟩:∃cs,cs=(a.map fun n:Nat=>Value.int .u16 (n:Int)).toArray:=⟨_,rfl⟩;rw[<-iV]at cT;rw[<-iV];have hc8:cs.size=8:=by rw[iV];simp[ha8]
      have j7:cs.all (·.oneCell')=true:=by rw[iV];simp[Value.oneCell']
      have hci:(Tryz.prog.info? 230).map (·.size)=some cs.size:=by rw[ix,hc8]
      have CT:=Ih cT;have Hc8:=Ih hc8;have Hc1:=Ih j7;have Hci:=Ih hci;clear cT hc8 j7 hci ha8 jQ iV FX HN
      go_upto_region 5 with(refine im rfl _ _ rfl w1.heap.size rfl cs Hc8.out Hc1.out rfl _ (O7.out _) rfl ?_)
      generalize oZ:(w1.alloc _).setRow w1.heap.size cs=w2;have qB:w2.heap[w1.heap.size]? =some (.cells cs 230 (0,0)):=by rw[<-oZ];exact setRow_heap _ _ _ _ _ _ (O7.out _)
      have aU:Below w.heap.size w w2:=by rw[<-oZ];exact below_setRow (aC.alloc aC.size _) aC.size _
      have Pw:=Ih qB;clear oZ O7 CX qB
      go_wp2_with (refine wpList_load_row rfl 230 _ rfl w1.heap.size rfl 230 _ (0,0) _ Pw.out Tryz.underlying230 rfl Hci.out ?_)
      with_reducible refine(CT.out _ (hE.below aU)).mono ?_
      rintro e w3 ⟨u,rfl,hu,cq⟩;have Sb:u.size<=100:=by rw[<-aa,hu.out];exact kl
      have bn:¬(9223372036854775807<1+u.size):=by omega
      have eA:¬(9223372036854775807<1+u.size+1):=by omega
      go_wp2
      go_ret2
      rw[iF.out];refine⟨ac aU cq,_,rfl,Ih ?_⟩;rw[ai,ai,hu.out]
   ·have abD:((s[k].toNat:Int) != 93)=true:=by
     have:((s[k].toNat:Int)==93)=false:=(jO s[k] 93).trans (beq_eq_false_iff_ne.2 KR);simp only[bne,this];rfl
    have HN:Hid (Lz.aD s.data.toList dk=.er 72):=by
     show _=_;rw[HP.out,if_pos];right;rw[Dz.out];intro h;exact KR (Option.some.inj h)
    clear KR;go_enter Tryz.func199,Tryz.ntmps199
    go_wp2_with fail
    refine(CP.out _).mono ?_;rintro e w' ⟨rfl,rfl⟩
    go_wp2
    go_ret2
    rw[HN.out];exact jk (d:=0) (Below.refl _ _) rfl (by omega)
def PR:Lz.Res->List UInt8
 | .ok t=>t
 | .er _=>[]
def resE:Lz.Res->Nat
 | .ok _=>0
 | .er n=>n
def pg (r:Lz.Res) (w:World) (e:Ending) (w':World):Prop:=
 ∃u:ByteArray,e=.returned (.tuple #[.string u,.int .i64 (resE r:Nat)])/\Hid (u.data.toList=PR r)/\Below w.heap.size w w'
theorem vl (s:ByteArray) (dk:Bool) (hs:s.size<=900000) (Xy:dk=false->s.data.toList[0]? ≠some 91->Qa s) (w:World) (hE:de w):Calls Tryz.prog 156 #[.string s,.bool dk] w (pg (Lz.aD s.data.toList dk) w):=by
 have cH:=Jf s dk hs Xy w hE;generalize Lz.aD s.data.toList dk=r at cH⊢;have CH:=Ih cH;clear cH Xy;go_enter Tryz.func156,Tryz.ntmps156
 go_wp2_with fail
 refine(CH.out).mono ?_;rintro e w1 ⟨aC,bt⟩;cases r with
 | ok t=>
   obtain⟨u,rfl,hu⟩:=bt
   go_wp2
   go_ret2
   exact⟨u,rfl,hu,aC⟩
 | er n=>
   obtain⟨v,d,hd,rfl,rG⟩:=bt;have cC:=LM d hd (n:Int) v w1 (hE.below aC) rG;have CC:=Ih cC;clear cC;obtain⟨t0,x0,rfl⟩:=rG.iface
   go_wp2_with fail
   refine(CC.out).mono ?_;rintro e w2 ⟨rfl,aU⟩
   go_wp2
   go_ret2
   exact⟨⟨#[]⟩,rfl,Ih rfl,ac aC aU⟩
end Go.Proofs.YtlcbhacofagedaaGreatDoor
namespace Lz
open Go
theorem lA (s:ByteArray) (j:Nat) (h:j<s.size):(s.get! j).toNat=(s[j]'h).toNat:=by
 congr 1;show s.data[j]! =_;rw[getElem!_pos s.data j h];rfl
theorem Ci (s:ByteArray) (pos:Nat) (h:pos<s.size) (hb:128<=(s[pos]'h).toNat) (j:Nat) (h1:pos<=j) (h2:j<pos+(Utf8.decode s pos).2) (hj:j<s.size):128<=(s[j]'hj).toNat:=by
 rw[Lib.decode_at]at h2;have e0:=lA s pos h;by_cases hp:j=pos
 ·subst hp;exact hb
 rcases Lib.decodeN_shape (s.size-pos) (s.get! pos).toNat (s.get! (pos+1)).toNat (s.get! (pos+2)).toNat (s.get! (pos+3)).toNat with⟨h3,_⟩|⟨_,hn,c1,_,h3⟩|⟨_,hn,c1,c2,_,_,h3⟩|⟨_,hn,c1,c2,c3,_,_,h3⟩|h3
 ·omega
 ·rw[h3]at h2;simp only at h2;obtain rfl:j=pos+1:=by omega
  have:=lA s (pos+1) hj;omega
 ·rw[h3]at h2;simp only at h2;obtain rfl|rfl:j=pos+1\/j=pos+2:=by omega
  ·have:=lA s (pos+1) hj;omega
  ·have:=lA s (pos+2) hj;omega
 ·rw[h3]at h2;simp only at h2;obtain rfl|rfl|rfl:j=pos+1\/j=pos+2\/j=pos+3:=by omega
  ·have:=lA s (pos+1) hj;omega
  ·have:=lA s (pos+2) hj;omega
  ·have:=lA s (pos+3) hj;omega
 ·rw[h3]at h2;simp only at h2;omega
theorem tR (s:ByteArray) (pos:Nat):Utf8.valid ((Utf8.decode s pos).1:Int)=true:=by
 have aN:(s.get! pos).toNat<256:=(s.get! pos).toNat_lt;have:=Lib.decodeN_valid (s.size-pos) (s.get! pos).toNat (s.get! (pos+1)).toNat (s.get! (pos+2)).toNat (s.get! (pos+3)).toNat aN;rw[<-Lib.decode_at]at this;rw[validRune_eq];unfold validRune;rw[decide_eq_true_eq];omega
theorem Bi (q:UInt8->Bool) (l:Bs) (pos:Nat):∀k,(∀j b,pos<=j->j<pos+k->l[j]? =some b->q b=false)->(l.drop pos).any q=(l.drop (pos+k)).any q
 | 0,_=>rfl
 | k+1,h=>by
   rw[Bi q l pos k fun j b h1 h2 hj=>h j b h1 (by omega) hj];by_cases hl:pos+k<l.length
   ·rw[List.drop_eq_getElem_cons hl,List.any_cons,h (pos+k) l[pos+k] (by omega) (by omega) (List.getElem?_eq_getElem hl)];rfl
   ·rw[List.drop_eq_nil_of_le (by omega),List.drop_eq_nil_of_le (by omega)]
end Lz
namespace Go.Proofs.YtlcbhacofagedaaGreatDoor
open Go.RowKit
theorem wP (ch:ByteArray) (ha:∀c∈ch.data.toList,c.toNat<128) (w:World):Calls Tryz.prog 218 #[.string ch,.int .i32 65533] w (wj (-1) w):=by
 have Ha:=Ih ha;clear ha;go_enter Tryz.func218,Tryz.ntmps218
 go_wp2
 go_loopg [] ch.size (fun gf wx=>∃pos:Nat,wx.heap[w.heap.size]? =some (.stringIter ch pos)/\Below w.heap.size w wx/\ch.size<=pos+gf)
 case atStart=>exact⟨0,World.iter_heap w ch 0,(Below.refl _ w).alloc (Nat.le_refl _) _,by omega⟩
 case round=>
  obtain⟨pos,hit,bi,hfu⟩:=hrel;by_cases lV:pos<ch.size
  ·obtain⟨g',rfl⟩:∃g',gk=g'+1:=⟨gk-1,by omega⟩;have Dv:∀ty,(Instr.next (.pointer (some ⟨w.heap.size,0,none⟩)) true ty).run Tryz.prog wr=_:=fun ty=>Lib.run_next_any_at wr w.heap.size ch pos ty hit lV;have R8:(ch[pos]'lV).toNat<128:=Ha.out _ (by rw[List.mem_iff_getElem?];exact⟨pos,aw lV⟩);rw[decode_ascii ch pos lV R8]at Dv;have tg:=Lib.iterAt_heap wr w.heap.size ch pos (pos+1) hit;have fw:=Lib.below_iterAt bi (k:=w.heap.size) (Nat.le_refl _) ch (pos+1);generalize wr.iterAt w.heap.size ch (pos+1)=W at Dv tg fw;have dG:(((ch[pos]'lV).toNat:Int)==65533)=false:=beq_eq_false_iff_ne.2 (by omega);generalize (ch[pos]'lV).toNat=R at Dv dG;clear R8
   go_wp2
   go_roundg g'
   case measure=>omega
   case rel=>exact⟨pos+1,tg,fw,by omega⟩
  ·have Dv:∀ty,(Instr.next (.pointer (some ⟨w.heap.size,0,none⟩)) true ty).run Tryz.prog wr=_:=fun ty=>Lib.run_next_end_at wr w.heap.size ch pos ty hit lV
   go_wp2
   go_ret;exact⟨rfl,bi⟩
theorem BY (r:Int) (w:World):Calls Tryz.prog 252 #[.int .i32 r] w fun e w'=>e=.returned (.bool (Lib.validRune r))/\w=w':=(Tryz.utf8_ValidRune r w).mono fun _ _ ⟨h1,h2⟩=>⟨h1,h2.symm⟩
theorem uM (ch:ByteArray) (a b:Nat) (ha:∀c∈ch.data.toList,c.toNat<128) (c:UInt8) (hc:128<=c.toNat):Lib.indexByte (ch.extract a b).data.toList c= -1:=by
 apply Lz.kG
 intro h;have:=ha c (mem_extract h);omega
theorem wK (ch:ByteArray) (ha:∀c∈ch.data.toList,c.toNat<128) (r:Int) (R8:128<=r) (hr:Utf8.valid r=true) (dG:r≠65533) (w:World):Calls Tryz.prog 218 #[.string ch,.int .i32 r] w (wj (-1) w):=by
 have hv:Lib.validRune r=true:=by
  show validRune r=true;rw[<-validRune_eq];exact hr
 obtain⟨bK,fW,K4⟩:=encode_facts r hr R8;have acK:(r==65533)=false:=beq_eq_false_iff_ne.2 dG;have K5:(0:Int)<=r:=by omega
 have oU:¬r<128:=by omega
 have acb:decide (r<128)=false:=decide_eq_false oU;have cV:=BY r w;rw[hv]at cV;have CV:=Ih cV;have Ha:=Ih ha;clear cV hv hr dG ha;have sV:∀W,(convert 21 9 (.int .i32 r)).run Tryz.prog W=.ok (.string (Utf8.encode r)) W:=fun W=>run_convert_int_string W 21 9 .i32 r (by rw[Tryz.underlying21];rfl) Tryz.underlying9;generalize Utf8.encode r=rs at bK fW K4 sV;obtain⟨k,hk⟩:∃k,k=rs.size-1:=⟨_,rfl⟩;have Lr:k<rs.size:=by omega
 have TC:(rs.size:Int)-1=(k:Int):=by omega
 have Xh:k<=3:=by omega
 have h8:128<=(rs[k]'Lr).toNat:=by subst hk;exact K4 Lr
 clear hk bK fW K4;have iN:(0:Int)<=(k:Int):=by omega
 have hkr:(k:Int)<(rs.size:Int):=by omega
 go_enter Tryz.func218,Tryz.ntmps218
 go_wp2_with fail
 refine(CV.out).mono ?_;rintro e w' ⟨rfl,rfl⟩;by_cases hkc:k<ch.size
 ·have abs:(k:Int)<(ch.size:Int):=by omega
  have xe:(((ch[k]'hkc).toNat:Int) != ((rs[k]'Lr).toNat:Int))=true:=by
   have:=Ha.out (ch[k]'hkc) (by rw[List.mem_iff_getElem?];exact⟨k,aw hkc⟩)
   simp;omega
  have hib:=uM ch (k+1) ch.size Ha.out (rs[k]'Lr) h8;have cI:=fun W=>mB (ch.extract (k+1) ch.size) (rs[k]'Lr) W;rw[hib]at cI;have CI:∀W,Calls Tryz.prog 137 #[.string (ch.extract (k+1) ch.size),.int .u8 ((rs[k]'Lr).toNat:Int)] W fun e w'=>e=.returned (.int .i64 (-1))/\w'=W:=fun W=>(cI W).mono fun _ _ ⟨h1,h2⟩=>⟨h1,h2.symm⟩;have iW:IntKind.i64.wrap ((k:Int)+1)=(k:Int)+1:=IntWalk.i64_in _ (by omega);have kq:(0:Int)<=(k:Int)+1:=by omega
  have Sm:(k:Int)+1<=(ch.size:Int):=by omega
  have VR:((k:Int)+1).toNat=k+1:=by omega
  have HCI:=Ih CI;clear CI cI hib h8
  go_wp2_with fail
  go_step3
  go_wp2_with fail
  refine wp_loop_rounds 1 ?_;rw[rounds_succ]
  go_wp2_with fail
  go_step3
  go_wp2_with fail
  go_quiet (fail)
  have aC:Below w.heap.size w (w.drewN nq):=below_drewN (Below.refl _ w) nq;generalize w.drewN nq=wa at aC⊢
  go_wp2_with fail
  go_quiet ((go_at_call 137;exact Calls.quiet_of_same (HCI.out _)))
  go_wp2
  rw[Exit.noGoto_ret];go_ret;exact⟨rfl,below_drewN aC _⟩
 ·have abs:¬(k:Int)<(ch.size:Int):=by omega
  clear h8
  go_wp2_with fail
  go_step3
  go_wp2_with fail
  refine wp_loop_rounds 1 ?_;rw[rounds_succ]
  go_wp2
  first |rw[Exit.noGoto_ret]|skip
  go_ret;exact⟨rfl,Below.refl _ _⟩
theorem oq (c:UInt8):∀l:List UInt8,decide (0<=Lib.indexByte l c)=l.contains c
 | []=>rfl
 | b::l=>by
   have ih:=oq c l;have o6:=Lib.indexByte_ge l c;rw[Lib.indexByte,List.contains_cons,<-ih];by_cases h:b=c
   ·subst h;simp
   ·have h1:(b==c)=false:=beq_eq_false_iff_ne.2 h;have h2:(c==b)=false:=beq_eq_false_iff_ne.2 fun e=>h e.symm;rw[h1,h2,Bool.false_or,if_neg (by simp),Bool.eq_iff_iff,decide_eq_true_eq,decide_eq_true_eq];by_cases h3:Lib.indexByte l c= -1
    ·rw[h3];simp
    ·rw[if_neg (by simpa using h3)];omega
theorem nY (ch:ByteArray) (ha:∀c∈ch.data.toList,c.toNat<128) (r:Nat) (hr:Utf8.valid (r:Int)=true) (w:World):
  Calls Tryz.prog 218 #[.string ch,.int .i32 (r:Int)] w fun e w'=>∃i:Int,e=.returned (.int .i64 i)/\Hid (decide (0<=i)=(decide (r<128)&&ch.data.toList.contains (UInt8.ofNat r)))/\Below w.heap.size w w':=by
 rcases Nat.lt_or_ge r 128 with h|h
 ·refine(Tryz.strings_IndexRune_ascii ch (r:Int) w (by omega) (by omega)).mono ?_;rintro e w' ⟨he,rfl⟩;refine⟨_,he,Ih ?_,Below.refl _ _⟩;rw[show((r:Int)).toNat.toUInt8=UInt8.ofNat r from rfl,decide_eq_true h,Bool.true_and];exact oq _ _
 ·by_cases h2:r=65533
  ·subst h2;refine(wP ch ha w).mono ?_;rintro e w' ⟨he,hb⟩;exact⟨-1,he,Ih (by rfl),hb⟩
  ·refine(wK ch ha (r:Int) (by omega) hr (by omega) w).mono ?_;rintro e w' ⟨he,hb⟩;exact⟨-1,he,Ih (by rw[decide_eq_false (show ¬r<128 by omega)];rfl),hb⟩
theorem zx (s ch:ByteArray) (h8:s.size<=8) (h2:2<=ch.size) (ha:∀c∈ch.data.toList,c.toNat<128) (w:World):
  Calls Tryz.prog 219 #[.string s,.string ch] w fun e w'=>∃i:Int,e=.returned (.int .i64 i)/\Hid (decide (0<=i)=s.data.toList.any ch.data.toList.contains)/\Below w.heap.size w w':=by
 have he:=aj (s:=ch) (by omega);have j7:((ch.size:Int)==1)=false:=beq_eq_false_iff_ne.2 (by omega);have cU:=fun W=>Tryz.strings_shouldUseASCIISet (s.size:Int) W;rw[decide_eq_false (show ¬(8:Int)<(s.size:Int) by omega)]at cU;have CU:=Ih fun W=>(cU W).mono fun _ _ (h:_/\_)=>(⟨h.1,h.2.symm⟩:_/\W=_);have Ha:=Ih ha;clear cU ha;go_enter Tryz.func219,Tryz.ntmps219
 go_wp2_with fail
 refine(CU.out _).mono ?_;rintro e w' ⟨rfl,rfl⟩
 go_wp2
 go_loopg [] s.size (fun gf wx=>∃pos:Nat,wx.heap[w.heap.size]? =some (.stringIter s pos)/\Below w.heap.size w wx/\s.size<=pos+gf/\Hid (s.data.toList.any ch.data.toList.contains=(s.data.toList.drop pos).any ch.data.toList.contains))
 case atStart=>exact⟨0,World.iter_heap w s 0,(Below.refl _ w).alloc (Nat.le_refl _) _,by omega,Ih (by rw[List.drop_zero])⟩
 case round=>
  obtain⟨pos,hit,bi,hfu,hS⟩:=hrel;by_cases lV:pos<s.size
  ·obtain⟨g',rfl⟩:∃g',gk=g'+1:=⟨gk-1,by omega⟩;have Dv:∀ty,(Instr.next (.pointer (some ⟨w.heap.size,0,none⟩)) true ty).run Tryz.prog wr=_:=fun ty=>Lib.run_next_any_at wr w.heap.size s pos ty hit lV;have hwd:=Lib.width_pos s pos;have qE:=Lz.tR s pos
   have cw:Hid ((s.data.toList.drop pos).any ch.data.toList.contains=((decide ((Utf8.decode s pos).1<128)&&ch.data.toList.contains (UInt8.ofNat (Utf8.decode s pos).1))||(s.data.toList.drop (pos+(Utf8.decode s pos).2)).any ch.data.toList.contains)):=by
    show _=_;rcases Nat.lt_or_ge (s[pos]'lV).toNat 128 with h1|h1
    ·rw[decode_ascii s pos lV h1]
     have hd:s.data.toList.drop pos=s[pos]::s.data.toList.drop (pos+1):=by
      rw[List.drop_eq_getElem_cons (show pos<s.data.toList.length from lV)];rfl
     rw[hd,List.any_cons,decide_eq_true h1]
     simp
    ·have hr:=Lz.tD s pos lV h1;rw[decide_eq_false (by omega),Bool.false_and,Bool.false_or];refine Lz.Bi _ _ _ _ ?_;intro j b h3 h4 hj;have jR:j<s.size:=by rw[<-aa];exact(List.getElem?_eq_some_iff.1 hj).1
     have h5:=Lz.Ci s pos lV h1 j h3 h4 jR;rw[aw jR]at hj;rw[Option.some.inj hj]at h5;rw[Bool.eq_false_iff];intro hm;have:=Ha.out b (List.contains_iff_mem.1 hm);omega
   generalize hR:(Utf8.decode s pos).1=R at Dv qE cw;generalize hK:(Utf8.decode s pos).2=K at Dv hwd cw;clear hR hK;have tg:=Lib.iterAt_heap wr w.heap.size s pos (pos+K) hit;have fw:=Lib.below_iterAt bi (k:=w.heap.size) (Nat.le_refl _) s (pos+K);have Dk:w.heap.size<(wr.iterAt w.heap.size s (pos+K)).heap.size:=(Array.getElem?_eq_some_iff.1 tg).1;generalize wr.iterAt w.heap.size s (pos+K)=W at Dv tg fw Dk;have CI:=Ih (nY ch Ha.out R qE W);have Wi:=Ih tg;clear qE tg hit
   go_wp2_with fail
   refine(CI.out).mono ?_;rintro e w2 ⟨i,rfl,hi,aU⟩;have Wf:Hid (w2.heap[w.heap.size]? =some (.stringIter s (pos+K))):=by show _=_;rw[aU.block _ Dk];exact Wi.out
   have iO:Below w.heap.size w w2:=fw.trans (aU.mono fw.size);by_cases nP:0<=i
   ·have HD:Hid (s.data.toList.any ch.data.toList.contains=true):=by
     show _=_;have h1:=hi.out;rw[decide_eq_true nP]at h1;rw[hS.out,cw.out,<-h1];rfl
    go_wp2
    go_ret;exact⟨(pos:Int),rfl,Ih (by rw[HD.out];exact decide_eq_true (by omega)),iO⟩
   ·have HD:Hid (s.data.toList.any ch.data.toList.contains=(s.data.toList.drop (pos+K)).any ch.data.toList.contains):=by
     show _=_;have h1:=hi.out;rw[decide_eq_false nP]at h1;rw[hS.out,cw.out,<-h1];rfl
    go_wp2
    go_roundg g'
    case measure=>omega
    case rel=>exact⟨pos+K,Wf.out,iO,by omega,HD⟩
  ·have Dv:∀ty,(Instr.next (.pointer (some ⟨w.heap.size,0,none⟩)) true ty).run Tryz.prog wr=_:=fun ty=>Lib.run_next_end_at wr w.heap.size s pos ty hit lV
   have HD:Hid (s.data.toList.any ch.data.toList.contains=false):=by
    show _=_;rw[hS.out,List.drop_eq_nil_of_le (by rw[aa];omega)];rfl
   go_wp2
   go_ret;exact⟨-1,rfl,Ih (by rw[HD.out];rfl),bi⟩
theorem G4:(Tryz.prog.info? 188).map (fun i=>(i.zero,i.size))=some (some (.agg (Array.replicate 256 (.bool false))),256):=by kernel_rfl
theorem za (s ch:ByteArray) (hs:s.size<=1073741824) (h2:2<=ch.size) (hz:ch.size<=1000) (ha:∀c∈ch.data.toList,c.toNat<128) (w:World):
  Calls Tryz.prog 219 #[.string s,.string ch] w fun e w'=>∃i:Int,e=.returned (.int .i64 i)/\Hid (decide (0<=i)=s.data.toList.any ch.data.toList.contains)/\Below w.heap.size w w':=by
 by_cases h8:s.size<=8
 ·exact zx s ch h8 h2 ha w
 ·refine(Tryz.strings_IndexAny_long (zero_of_info G4).1 s ch w h2 (by omega) (by omega) (by omega) (fun j b hj=>ha b (List.mem_of_getElem? hj))).mono ?_;rintro e w' ⟨he,hw⟩;refine⟨_,he,Ih ?_,?_⟩
  ·have:=Lz.uc s.data.toList ch.data.toList;unfold Lib.containsAny at this;exact this
  ·rw[hw];exact((Below.refl _ w).alloc (Nat.le_refl _) _).alloc (by simp) _
theorem Fc:∀c∈lh.data.toList,c.toNat<128:=by decide
theorem NY (s:ByteArray) (hs:s.size<=1073741824):Qa s:=by
 intro W _;have cI:=Ih (za s lh hs (by decide) (by decide) Fc W);have hB:s.data.toList.any lh.data.toList.contains=s.data.toList.any Lz.eG.contains:=rfl;rw[hB]at cI;generalize s.data.toList.any Lz.eG.contains=q at cI⊢;clear hB;go_enter Tryz.func239,Tryz.ntmps239
 go_wp2_with fail
 refine(cI.out).mono ?_;rintro e w1 ⟨i,rfl,hi,hb⟩;have Hi:=Ih hi.out.symm;clear hi
 go_wp2
 go_ret;exact⟨by rw[Hi.out];rfl,hb⟩
end Go.Proofs.YtlcbhacofagedaaGreatDoor
