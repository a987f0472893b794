/-
  strings.IndexRune at a rune beyond 127 in a text of bytes below 128; strings.IndexAny and ContainsAny of any text, at such bytes.
-/
import Derived.Test.YtecoeebjaleeiaaGreatDoorJ18
import Derived.Test.YtecoeebjaleeiaaGreatDoorJ19
import Derived.Lib.QuoteLoop
set_option maxHeartbeats 2000000
set_option maxRecDepth 1000000
namespace Lz
open Go
theorem DJ (last:Bool):∀(ls:List Bs) (l:List Nat),jW last ls=some l->l.length<=ls.length+1
 | [],l,h=>by simp[jW]at h;simp[h]
 | x::r,l,h=>by
   rw[jW]at h;split at h
   ·cases hb:ia x with
    | none=>rw[hb]at h;cases h
    | some b=>rw[hb]at h;injection h with h;rw[<-h];simp
   ·cases hp:iq x with
    | none=>rw[hp]at h;cases h
    | some v=>
      rw[hp]at h;simp only at h;cases hr:jW last r with
      | none=>rw[hr]at h;cases h
      | some m=>
        rw[hr]at h;injection h with h
        have:=DJ last r m hr;rw[<-h];simp;omega
theorem Do {s:Bs} {last:Bool} {l:List Nat} (h:ie s last=some l):l.length<=s.length+2:=by
 unfold ie at h;split at h
 ·injection h with h;rw[<-h];simp
 ·have h1:=DJ _ _ _ h;have h2:=fY 58 s;omega
end Lz
namespace Go.Proofs.YtecoeebjaleeiaaGreatDoor
open Go.RowKit
def z8:Array Value:= #[.int .u16 0,.int .u16 0,.int .u16 0,.int .u16 0,.int .u16 0,.int .u16 0,.int .u16 0,.int .u16 0]
theorem IJ:(Tryz.prog.info? 266).map (·.size)=some 1:=by kernel_rfl
def Vl (o:Option (List Nat)) (w:World) (e:Ending) (w':World):Prop:=
 Below w.heap.size w w'/\match o with
  | some a=>e=.returned (.tuple #[FI a,.nilIface])
  | none=>∃v,e=.returned (.tuple #[.agg z8,v])/\dF w' 72 1 v
theorem II {w:World} {base:Nat} {v:Value} {l:List Nat} (h:w.ownsRow base 266 1 v l.length (dU l)):
  ∃a c,v=.slice a l.length c/\(0<l.length->∃g,a=some ⟨g,0,none⟩/\base<=g/\∀j u,(dU l)[j]? =some u->w.cell? ⟨g,j,none⟩=some u):=by
 rcases h.2 with⟨rfl,h0⟩|⟨g,cap,dB,rfl,Lw,hg,TW,gL,iZ,gH⟩
 ·exact⟨none,0,by rw[h0],fun h=>by omega⟩
 ·refine⟨some ⟨g,0,none⟩,cap,rfl,fun _=>⟨g,rfl,Lw,fun j u hj=>?_⟩⟩;rw[<-gH,List.getElem?_take]at hj;split at hj
  ·simp only[World.cell?,hg];simpa using hj
  ·cases hj
theorem D1 (w:World) (R g j:Nat) (cs:Array Value) (h:g≠R):(w.setRow R cs).cell? ⟨g,j,none⟩=w.cell? ⟨g,j,none⟩:=by
 have:=setRow_other w R g cs h;simp only[World.cell?];rw[this]
theorem nE {P:Program} {w:World} {ops:Array Oper} {rest:List Oper} {o:Oper} {a:Act} {Q:Exit->Act->World->Prop} (L4:o.guard=none) (d s:Operand) (dT sT:TypeId)
  (ho:o.op=.call {callee:=.builtin .copy,args:= #[d,s],argTypes:= #[dT,sT]}) (elem:TypeId) (hu:P.underlying dT=some (.slice elem)) (ju:(P.info? elem).map (·.size)=some 1)
  (dp sp:Option Addr) (R8 Xg Sz WO:Nat) (hd:a.eval d=.slice dp R8 Xg) (hs:a.eval s=.slice sp Sz WO)
  (g off:Nat) (dB:List Value) (t:TypeId) (hg:w.heap[g]? =some (.cells dB.toArray t (0,0))) (cs:List Value) (hn:cs.length=Nat.min Sz R8)
  (qS:0<cs.length->dp=some ⟨g,off,none⟩/\∃ad,sp=some ad/\∀j v,cs[j]? =some v->w.cell? (ad.add j)=some v)
  (acf:off+cs.length<=dB.length) (h1:∀v∈cs,v.oneCell'=true)
  (h:wpList P ops Q rest (a.put o.dst (goInt cs.length)) (w.setRow g (splice dB off cs).toArray)):wpList P ops Q (o::rest) a w:=by
 by_cases h0:cs.length=0
 ·obtain rfl:cs=[]:=List.eq_nil_of_length_eq_zero h0;refine wpList_copy_nothing L4 d s dT sT ho elem hu ju dp sp R8 Xg Sz WO hd hs hn.symm ?_;have e:splice dB off []=dB:=by simp[splice]
  rw[e,setRow_self w g dB.toArray t (0,0) hg]at h;exact h
 ·obtain⟨rfl,ad,rfl,sr⟩:=qS (by omega);refine wpList_copy_own L4 d s dT sT ho elem hu ju g off R8 Xg ad Sz WO hd hs dB.toArray t hg cs hn sr (by simpa using acf) h1 ?_;have e:(dB.toArray.toList.take off++(cs++dB.toArray.toList.drop (off+cs.length))).toArray=(splice dB off cs).toArray:=by simp[splice]
  rw[e];exact h
theorem wY:z8.all (·.oneCell')=true:=by simp[z8,Value.oneCell']
theorem jn {ops:Array Oper} {rest:List Oper} {o:Oper} {a:Act} {w:World} {Q:Exit->Act->World->Prop} (L4:o.guard=none) (x y:Operand) (ho:o.op=.store 268 x y)
  (g:Nat) (hx:a.eval x=.pointer (some ⟨g,0,none⟩)) (cells:Array Value) (h8:cells.size=8) (h1:cells.all (·.oneCell')=true) (hy:a.eval y=.agg cells)
  (old:Array Value) (hg:w.heap[g]? =some (.cells old 268 (0,0))) (WZ:old.size=8)
  (hk:wpList Tryz.prog ops Q rest (a.put o.dst undef) (w.setRow g cells)):wpList Tryz.prog ops Q (o::rest) a w:=
 wpList_store_row L4 268 x y ho g cells hx hy 268 old hg (by rw[jG,h8]) (WZ.trans h8.symm) h1 hk
theorem dF.setRow {w:World} {e:Int} {R:Nat} {t:TypeId} {fr:Nat×Nat} (hr:w.heap[R]? =some (.cells z8 t fr)) (cs:Array Value):∀{d:Nat} {v:Value},dF w e d v->dF (w.setRow R cs) e d v
 | 0,_,h=>h
 | d+1,v,⟨p,u,h1,h2,h3,h4⟩=>by
   refine⟨p,u,h1,by simpa [World.setRow]using h2,?_,dF.setRow hr cs h4⟩
   have ed:p≠R:=by
    rintro rfl;obtain⟨t0,x0,hi⟩:=h4.iface;have:w.cell? ⟨p,1,none⟩=some (.int .u16 0):=by simp only[World.cell?,hr];rfl
    rw[h3,hi]at this;cases this
   have:=setRow_other w R p cs ed;simp only[World.cell?]at h3⊢;rw[this];exact h3
theorem tj {w wx:World} {v:Value} (hb:Below w.heap.size w wx) (hr:wx.heap[w.heap.size]? =some (.cells z8 268 (0,0))) (hf:dF wx 72 1 v):Vl none w (.returned (.tuple #[.agg z8,v])) (wx.setRow w.heap.size z8):=
 ⟨below_setRow hb (Nat.le_refl _) _,_,rfl,hf.setRow hr _⟩
theorem EF {w wx:World} {s:ByteArray} {t:TypeId} {fr:Nat×Nat} (hb:Below w.heap.size w wx) (aV:w.heap.size<wx.heap.size) (hr:wx.heap[w.heap.size]? =some (.cells z8 268 (0,0))):
  Vl none w (.returned (.tuple #[.agg z8,.iface 263 (.pointer (some ⟨wx.heap.size,0,none⟩))])) ((wx.alloc (.cells #[.string s,.iface 33 (.int .i64 72)] t fr)).setRow w.heap.size z8):=
 tj (hb.alloc hb.size _) (by rw[heap_alloc_old _ _ aV];exact hr) (gx rfl)
def QD (sh:Bool):Option (List Nat)->Option (List Nat)->Option (List Nat)
 | some x,some y=>if(if sh then decide (8<=x.length+y.length)else !(x.length+y.length==8))then none else some (x++List.replicate (8-x.length-y.length) 0++y)
 | _,_=>none
theorem RP (s:List UInt8):Lz.kD s=if(!(Lib.cut s [58,58]).2.2&&s.isEmpty)||Lib.hasPrefix (Lib.cut s [58,58]).2.1 [58]then none else QD (Lib.cut s [58,58]).2.2 (Lz.ie (Lib.cut s [58,58]).1 (!(Lib.cut s [58,58]).2.2)) (Lz.ie (Lib.cut s [58,58]).2.1 true):=by
 unfold Lz.kD;simp only;split
 ·rfl
 ·generalize Lz.ie (Lib.cut s [58,58]).1 (!(Lib.cut s [58,58]).2.2)=a;generalize Lz.ie (Lib.cut s [58,58]).2.1 true=b;cases a with
  | none=>rfl
  | some x=>cases b with
    | none=>rfl
    | some y=>
      unfold QD;simp only;cases (Lib.cut s [58,58]).2.2
      ·simp only[Bool.false_eq_true,if_false];by_cases h:x.length+y.length=8
       ·rw[if_pos h,h];have:8-x.length-y.length=0:=by omega
        rw[this];simp
       ·rw[if_neg h];have:(x.length+y.length==8)=false:=beq_eq_false_iff_ne.2 h;rw[this];rfl
      ·simp
theorem B5 (s:ByteArray) (hs:s.size<=1048576) (w:World) (hE:dQ w):Calls Tryz.prog 202 #[.string s] w (Vl (Lz.kD s.data.toList) w):=by
 have cC:=fun W hW=>EV s ⟨#[58,58]⟩ (by omega) W hW
 have vp:(Lib.cut s.data.toList [58,58]).1.length<=s.size/\(Lib.cut s.data.toList [58,58]).2.1.length<=s.size:=by
  unfold Lib.cut;split
  ·simp only[List.length_take,List.length_drop,aa];omega
  ·exact⟨Nat.le_refl _,Nat.zero_le _⟩
 obtain⟨Si,SO⟩:=vp;have hS:=RP s.data.toList;rw[show(ByteArray.data ⟨#[58,58]⟩).toList=([58,58]:List UInt8)from rfl]at cC;generalize Lib.cut s.data.toList [58,58]=c at cC Si SO hS;obtain⟨c1,c2,sh⟩:=c;simp only at cC Si SO hS;have CC:=Ih cC;have HS:=Ih hS;have aa3:=Ih Si;have ZO:=Ih SO;clear cC hS Si SO;go_enter Tryz.func202,Tryz.ntmps202
 go_upto_region 1 with fail
 generalize hwx:w.alloc _=wx;have XP:wx=w.alloc (.cells z8 268):=by rw[<-hwx];rfl
 have qV:wx.heap[w.heap.size]? =some (.cells z8 268 (0,0)):=by rw[XP];exact heap_alloc_new w _
 have ku:Below w.heap.size w wx:=by rw[XP];exact(Below.refl _ w).alloc (Nat.le_refl _) _
 have fI:w.heap.size<wx.heap.size:=by rw[XP];simp
 clear hwx XP
 go_wp2_with fail
 refine(CC.out _ (hE.below ku)).mono ?_;rintro e w1 ⟨fr,bk,rfl,lX,Cv,ar⟩;have bC:w1.heap[w.heap.size]? =some (.cells z8 268 (0,0)):=by rw[ar.block _ fI];exact qV
 have iY:=ac ku ar;have ei:w.heap.size<w1.heap.size:=Nat.lt_of_lt_of_le fI ar.size;have If:fr.size<=s.size:=by rw[<-aa fr,lX.out];exact aa3.out
 have yo:bk.size<=s.size:=by rw[<-aa bk,Cv.out];exact ZO.out
 obtain⟨pb,Cg⟩:∃pb,pb=Lib.hasPrefix bk.data.toList [58]:=⟨_,rfl⟩;obtain⟨q,hq⟩:∃q,q=((!sh&&s.data.toList.isEmpty)||pb):=⟨_,rfl⟩
 have pB:Hid (Lz.kD s.data.toList=if q then none else QD sh (Lz.ie fr.data.toList (!sh)) (Lz.ie bk.data.toList true)):=by
  show _=_;rw[HS.out,lX.out,Cv.out,hq,Cg,Cv.out]
 have cP:=fun W=>jH bk ⟨#[58]⟩ W;rw[show Lib.hasPrefix bk.data.toList (ByteArray.data ⟨#[58]⟩).toList=pb from Cg.symm]at cP;have CP:=Ih cP;have Hq:=Ih hq;have OY:=Ih bC;clear HS aa3 ZO CC ku fI qV ar cP Cg hq bC
 go_upto_region 2 with fail
 go_cut [25] (fun s25 wc=>s25=.bool q/\w1=wc)
 case first=>
  have call:pb=true\/pb=false:=by cases pb<;>simp
  cases sh
  ·by_cases hz:s.size=0
   ·have he:=aq hz;have HQ:Hid (q=true):=by show _=_;rw[Hq.out,<-Lib.toList_data,he];rfl
    go_wp2_with fail
    go_meet;exact⟨by rw[HQ.out],rfl⟩
   ·have he:=an (s:=s) (by omega);have HQ:Hid (q=pb):=by show _=_;rw[Hq.out,<-Lib.toList_data,he];rfl
    go_wp2_with fail
    refine(CP.out _).mono ?_;rintro e w' ⟨rfl,rfl⟩
    go_wp2_with fail
    go_meet;exact⟨by rw[HQ.out],rfl⟩
  ·have HQ:Hid (q=pb):=by show _=_;rw[Hq.out];rfl
   go_wp2_with fail
   refine(CP.out _).mono ?_;rintro e w' ⟨rfl,rfl⟩
   go_wp2_with fail
   go_meet;exact⟨by rw[HQ.out],rfl⟩
 case rest=>
  obtain⟨rfl,rfl⟩:=hcut;clear CP Hq;cases q
  ·have XR:Hid (Lz.kD s.data.toList=QD sh (Lz.ie fr.data.toList (!sh)) (Lz.ie bk.data.toList true)):=by show _=_;rw[pB.out];rfl
   have cX:=fun W hW=>Jn fr (!sh) (by omega) W hW;have cY:=fun W hW=>Jn bk true (by omega) W hW;have Cq:=fun l (h:Lz.ie fr.data.toList (!sh)=some l)=>Lz.Do h;have XM:=fun l (h:Lz.ie bk.data.toList true=some l)=>Lz.Do h;rw[aa]at Cq XM;generalize Lz.ie fr.data.toList (!sh)=ox at cX XR Cq;generalize Lz.ie bk.data.toList true=oy at cY XR XM;have Hlx:=Ih Cq;have Hly:=Ih XM;clear Cq XM;have CX:=Ih cX;have CY:=Ih cY;clear cX cY pB lX Cv
   go_wp2_with fail
   refine(CX.out _ (hE.below iY)).mono ?_;rintro e w2 ⟨az,bA⟩;have pY:=ac iY az;have eM:w.heap.size<w2.heap.size:=Nat.lt_of_lt_of_le ei az.size;have Mh:Hid (w2.heap[w.heap.size]? =some (.cells z8 268 (0,0))):=by show _=_;rw[az.block _ ei];exact OY.out
   cases ox with
   | none=>
     obtain⟨v,rfl,tG⟩:=bA;have Fs:=Ih tG;obtain⟨p,u,rfl,_,_,_⟩:=tG;have HN:Hid (Lz.kD s.data.toList=none):=by show _=_;rw[XR.out];rfl
     go_wp2_with (refine jn rfl _ _ rfl w.heap.size rfl z8 rfl wY rfl z8 Mh.out rfl ?_)
     refine bodyPost_ret (aW rfl _ _ w.heap.size _ z8 (0,0) _ rfl (setRow_heap _ _ _ _ _ _ Mh.out) Tryz.underlying268 rfl jG) rfl ?_;rw[HN.out];exact tj pY Mh.out Fs.out
   | some x=>
   obtain⟨vx,acH,rfl,lW,WD⟩:=bA;clear OY az CX
   go_wp2_with fail
   refine(CY.out _ (hE.below pY)).mono ?_;rintro e w3 ⟨aO,bA⟩;have pL:=ac pY aO;have hz3:w.heap.size<w3.heap.size:=Nat.lt_of_lt_of_le eM aO.size;have TE:Hid (w3.heap[w.heap.size]? =some (.cells z8 268 (0,0))):=by show _=_;rw[aO.block _ eM];exact Mh.out
   cases oy with
   | none=>
     obtain⟨v,rfl,tG⟩:=bA;have Fs:=Ih tG;obtain⟨p,u,rfl,_,_,_⟩:=tG;have HN:Hid (Lz.kD s.data.toList=none):=by show _=_;rw[XR.out];rfl
     clear WD
     go_wp2_with (refine jn rfl _ _ rfl w.heap.size rfl z8 rfl wY rfl z8 TE.out rfl ?_)
     refine bodyPost_ret (aW rfl _ _ w.heap.size _ z8 (0,0) _ rfl (setRow_heap _ _ _ _ _ _ TE.out) Tryz.underlying268 rfl jG) rfl ?_;rw[HN.out];exact tj pL TE.out Fs.out
   | some y=>
   obtain⟨vy,ZA,rfl,Qc,hoy⟩:=bA;have Cq:=Hlx.out x rfl;have XM:=Hly.out y rfl;have acV:x.length<=1048578:=by omega
   have acK:y.length<=1048578:=by omega
   have hgy:w.heap.size<ZA:=by omega
   obtain⟨ax,cx,rfl,aah⟩:=II (bH WD aO);obtain⟨ay,cy,rfl,aab⟩:=II hoy;have HX2:=Ih aah;have HY2:=Ih aab;obtain⟨r,Ff⟩:∃r,r=(if sh then decide (8<=x.length+y.length)else !(x.length+y.length==8)):=⟨_,rfl⟩;have HS4:Hid (Lz.kD s.data.toList=if r then none else some (x++List.replicate (8-x.length-y.length) 0++y)):=by show _=_;rw[XR.out,Ff];rfl
   have hr8:r=false->x.length+y.length<=8:=by
    intro h;rw[Ff]at h;cases sh
    ·simp at h;omega
    ·simp at h;omega
   have Hrr:=Ih Ff;have Hr8:=Ih hr8;clear WD hoy Mh aah aab CY Ff hr8 XR aO If yo lW Qc Cq XM Hlx Hly
   go_upto_region 11 with fail
   go_cut [68] (fun s68 wc=>s68=.bool r/\w3=wc)
   case first=>
    cases sh
    ·by_cases h8:x.length+y.length=8
     ·have ZC:((x.length:Int)+(y.length:Int) != 8)=false:=by
       have:(x.length:Int)+(y.length:Int)=8:=by omega
       rw[this];rfl
      have HQ:Hid (r=false):=by show _=_;rw[Hrr.out,h8];rfl
      clear h8
      go_wp2_with fail
      go_meet;exact⟨by rw[HQ.out],rfl⟩
     ·have ZC:((x.length:Int)+(y.length:Int) != 8)=true:=by simp;omega
      have HQ:Hid (r=true):=by show _=_;rw[Hrr.out];simp[h8]
      clear h8
      go_wp2_with fail
      go_meet;exact⟨by rw[HQ.out],rfl⟩
    ·by_cases h8:8<=x.length+y.length
     ·have ZC:(8:Int)<=(x.length:Int)+(y.length:Int):=by omega
      have hd8:decide ((8:Int)<=(x.length:Int)+(y.length:Int))=true:=decide_eq_true ZC;have HQ:Hid (r=true):=by show _=_;rw[Hrr.out];simp[h8]
      go_wp2_with fail
      go_meet;exact⟨by rw[HQ.out],rfl⟩
     ·have ZC:¬(8:Int)<=(x.length:Int)+(y.length:Int):=by omega
      have hd8:decide ((8:Int)<=(x.length:Int)+(y.length:Int))=false:=decide_eq_false ZC;have HQ:Hid (r=false):=by show _=_;rw[Hrr.out];simp;omega
      go_wp2_with fail
      go_meet;exact⟨by rw[HQ.out],rfl⟩
   case rest=>
    obtain⟨rfl,rfl⟩:=hcut;clear Hrr;cases r
    ·have hxy:=Hr8.out rfl;have HS5:Hid (Lz.kD s.data.toList=some (x++List.replicate (8-x.length-y.length) 0++y)):=by show _=_;rw[HS4.out];rfl
     have fq:∀W,(Instr.sliceAt 268 (.pointer (some ⟨w.heap.size,0,none⟩)) none none none).run Tryz.prog W=.ok (.slice (some ⟨w.heap.size,0,none⟩) 8 8) W:=fun W=>by
      rw[run_sliceAt_array_all W 268 ⟨w.heap.size,0,none⟩ (by simp[Program.arrayLen,Program.elem,Tryz.underlying268])];rw[rH];go_simp
     obtain⟨t,ht⟩:∃t:Nat,t=8-y.length:=⟨_,rfl⟩;have ht8:t<=8:=by omega
     have htI:(8:Int)-(y.length:Int)=(t:Int):=by omega
     obtain⟨a2,lX,yw⟩:=Da w.heap.size t ht8;have Xh:(dU x).length=x.length:=by simp[dU]
     have Jy:(dU y).length=y.length:=by simp[dU]
     have Fi:(dU x).length=Nat.min x.length 8:=by rw[Xh];exact(Nat.min_eq_left (by omega)).symm
     have hny:(dU y).length=Nat.min y.length (8-t):=by rw[Jy];exact(Nat.min_eq_left (by omega)).symm
     have LJ:∀l:List Nat,∀v∈dU l,v.oneCell'=true:=by
      intro l v hv;obtain⟨n,_,rfl⟩:=List.mem_map.1 hv;rfl
     have Cf:0<(dU x).length->(some ⟨w.heap.size,0,none⟩:Option Addr)=some ⟨w.heap.size,0,none⟩/\∃ad,ax=some ad/\∀j v,(dU x)[j]? =some v->w3.cell? (ad.add j)=some v:=fun h=>by
      obtain⟨g,h1,_,h2⟩:=HX2.out (by omega);exact⟨rfl,_,h1,fun j v hj=>by rw[bV];exact h2 j v hj⟩
     have Co:=setRow_heap w3 w.heap.size z8 (splice z8.toList 0 (dU x)).toArray 268 (0,0) TE.out
     have hcy:0<(dU y).length->a2=some ⟨w.heap.size,t,none⟩/\∃ad,ay=some ad/\∀j v,(dU y)[j]? =some v->(w3.setRow w.heap.size (splice z8.toList 0 (dU x)).toArray).cell? (ad.add j)=some v:=fun h=>by
      obtain⟨g,h1,hg,h2⟩:=HY2.out (by omega);exact⟨yw (by omega),_,h1,fun j v hj=>by rw[bV,D1 _ _ _ _ _ (by omega)];exact h2 j v hj⟩
     have Ib:=below_setRow pL (Nat.le_refl _) (splice z8.toList 0 (dU x)).toArray;have LF:z8.toList.length=8:=rfl;have E6:0+(dU x).length<=z8.toList.length:=by rw[Xh,LF];omega
     have Lt:(splice z8.toList 0 (dU x)).length=8:=by rw[length_splice _ _ _ E6,LF]
     have tG:t+(dU y).length<=(splice z8.toList 0 (dU x)).length:=by rw[Lt,Jy];omega
     have sk:splice (splice z8.toList 0 (dU x)) t (dU y)=dU (x++List.replicate (8-x.length-y.length) 0++y):=by
      have hz:z8.toList=List.replicate 8 (Value.int .u16 0):=rfl;unfold splice;rw[hz,Xh,Jy,Nat.zero_add,List.take_zero,List.nil_append,List.drop_replicate];rw[List.take_append,List.drop_append,(show(dU x).take t=dU x from List.take_of_length_le (by rw[Xh];omega)),(show(dU x).drop (t+y.length)=[]from List.drop_eq_nil_of_le (by rw[Xh];omega)),Xh,List.take_replicate,List.drop_replicate];rw[show 8-x.length-(t+y.length-x.length)=0 by omega,show min (t-x.length) (8-x.length)=8-x.length-y.length by omega]
      simp[dU]
     have Ht:=Ih ht;have ll:=Ih fq;have Hfr:=Ih lX;have Hcx:=Ih Cf;have Hcy:=Ih hcy;have TZ:=Ih Co;have Hnx:=Ih Fi;have Hny:=Ih hny;have Hfx:=Ih E6;have Fs:=Ih tG;have V7:=Ih LJ;have aaC:=Ih sk;clear Cf hcy Co Fi hny E6 tG LJ sk Lt LF Xh Jy yw HX2 HY2 HS4 Hr8 lX fq ht
     go_upto_region 13 with fail
     have fq:=ll.out;have lX:=Hfr.out
     go_upto_region 15 with(first |(refine nE rfl (.tmp 74) (.tmp 75) 306 306 rfl 266 Tryz.underlying306 IJ (some ⟨w.heap.size,0,none⟩) ax 8 8 x.length cx rfl rfl w.heap.size 0 z8.toList 268 TE.out (dU x) Hnx.out Hcx.out Hfx.out (V7.out x) ?_)|(refine nE rfl (.tmp 80) (.tmp 81) 306 306 rfl 266 Tryz.underlying306 IJ a2 ay (8-t) (8-t) y.length cy rfl rfl w.heap.size t (splice z8.toList 0 (dU x)) 268 TZ.out (dU y) Hny.out Hcy.out Fs.out (V7.out y) ?_))
     rw[aaC.out];have PK:(x++List.replicate (8-x.length-y.length) 0++y).length=8:=by simp;omega
     have PS:(dU (x++List.replicate (8-x.length-y.length) 0++y)).toArray.all (·.oneCell')=true:=by
      simp[dU,Value.oneCell']
     generalize x++List.replicate (8-x.length-y.length) 0++y=al at HS5 PK PS⊢;have hr5:=setRow_heap _ w.heap.size _ (dU al).toArray 268 (0,0) TZ.out;have hx5:=below_setRow Ib (Nat.le_refl _) (dU al).toArray;have hl8:(dU al).toArray.size=8:=by simp[dU,PK]
     have Sv:(Tryz.prog.info? 268).map (·.size)=some (dU al).toArray.size:=by rw[jG,hl8]
     generalize (w3.setRow w.heap.size (splice z8.toList 0 (dU x)).toArray).setRow w.heap.size (dU al).toArray=w5 at hr5 hx5⊢;have Hr5:=Ih hr5;have Hi8:=Ih Sv;have Hl8:=Ih hl8;have Zx:=Ih PS;clear ll fq Hfr Hcx Hcy TZ Hnx Hny Hfx Fs V7 aaC Ht lX htI hr5 Sv hl8 PS PK Ib TE pL hz3
     go_wp2_with (first |(refine wpList_load_row rfl 268 _ rfl w.heap.size rfl 268 _ (0,0) _ Hr5.out Tryz.underlying268 rfl Hi8.out ?_)|(refine jn rfl _ _ rfl w.heap.size rfl (dU al).toArray Hl8.out Zx.out rfl (dU al).toArray Hr5.out Hl8.out ?_))
     refine bodyPost_ret (aW rfl _ _ w.heap.size _ (dU al).toArray (0,0) _ rfl (setRow_heap _ _ _ _ _ _ Hr5.out) Tryz.underlying268 rfl Hi8.out) rfl ?_;rw[HS5.out];exact⟨below_setRow hx5 (Nat.le_refl _) _,rfl⟩
    ·have HN:Hid (Lz.kD s.data.toList=none):=by show _=_;rw[HS4.out];rfl
     have Co:∀o,(w3.alloc o).heap[w.heap.size]? =some (.cells z8 268 (0,0)):=fun o=>by rw[heap_alloc_old _ _ hz3];exact TE.out
     have TZ:=Ih Co;clear Co
     go_wp2_with (refine jn rfl _ _ rfl w.heap.size rfl z8 rfl wY rfl z8 (TZ.out _) rfl ?_)
     refine bodyPost_ret (aW rfl _ _ w.heap.size _ z8 (0,0) _ rfl (setRow_heap _ _ _ _ _ _ (TZ.out _)) Tryz.underlying268 rfl jG) rfl ?_;rw[HN.out];exact EF pL hz3 TE.out
  ·have HN:Hid (Lz.kD s.data.toList=none):=by show _=_;rw[pB.out];rfl
   have bB:∀o,(w1.alloc o).heap[w.heap.size]? =some (.cells z8 268 (0,0)):=fun o=>by rw[heap_alloc_old _ _ ei];exact OY.out
   have Mh:=Ih bB;clear bB
   go_wp2_with (refine jn rfl _ _ rfl w.heap.size rfl z8 rfl wY rfl z8 (Mh.out _) rfl ?_)
   refine bodyPost_ret (aW rfl _ _ w.heap.size _ z8 (0,0) _ rfl (setRow_heap _ _ _ _ _ _ (Mh.out _)) Tryz.underlying268 rfl jG) rfl ?_;rw[HN.out];exact EF iY ei OY.out
def Of (r:Lz.Res) (w:World) (e:Ending) (w':World):Prop:=
 Below w.heap.size w w'/\match r with
  | .ok t=>∃u:ByteArray,e=.returned (.tuple #[.string u,.nilIface])/\Hid (u.data.toList=t)
  | .er n=>∃v d,d<=2/\e=.returned (.tuple #[.string ⟨#[]⟩,v])/\dF w' (n:Int) d v
theorem kL {w wx:World} {s:ByteArray} {n:Nat} {v:Value} {d:Nat} {t:TypeId} {fr:Nat×Nat} (hb:Below w.heap.size w wx) (hv:dF wx (n:Int) d v) (hd:d<=1):
  Of (.er n) w (.returned (.tuple #[.string ⟨#[]⟩,.iface 263 (.pointer (some ⟨wx.heap.size,0,none⟩))])) (wx.alloc (.cells #[.string s,v] t fr)):=
 ⟨hb.alloc hb.size _,_,_,Nat.succ_le_succ hd,rfl,gx hv⟩
theorem Gj:∀l:List UInt8,(Lz.aw l).length<=l.length:=by
 intro l
 induction h:l.length using Nat.strongRecOn generalizing l with
 | ind n ih=>
   cases l with
   | nil=>rw[Lz.aw];simp
   | cons c r=>
     rw[Lz.aw];simp only[List.length_cons]at h;split
     ·have:=ih (r.drop 2).length (by simp;omega) (r.drop 2) rfl
      simp at this⊢;omega
     ·have:=ih r.length (by omega) r rfl
      simp;omega
theorem Ga (s:ByteArray) (hs:s.size<=900000) (w:World) (hE:dQ w):Calls Tryz.prog 204 #[.string s] w (Of (Lz.eV s.data.toList) w):=by
 have P6:=Gj s.data.toList;rw[aa]at P6;have HP:Hid (Lz.eV s.data.toList=if Lz.low (Lz.aw s.data.toList)=[]\/(Lz.low (Lz.aw s.data.toList)).any Lz.rL=true then .er 70 else if Lz.cu (Lz.low (Lz.aw s.data.toList))then Lz.ofO 71 (Lz.gd (Lz.dz (Lz.low (Lz.aw s.data.toList))))else .ok (Lz.low (Lz.aw s.data.toList))):=Ih rfl;have Hdl:=Ih P6;clear P6;go_enter Tryz.func204,Tryz.ntmps204
 go_wp2_with fail
 refine(qC s (by omega) _).mono ?_;rintro e w1 ⟨d0,rfl,hd0,ar⟩;have abK:d0.size<=s.size:=by rw[<-aa d0,hd0.out];exact Hdl.out
 go_wp2_with fail
 refine(kv d0 (by omega) _).mono ?_;rintro e w2 ⟨d,rfl,hd,az⟩;have hdz:d.size<=s.size:=by rw[<-aa d,hd.out,ij,aa];exact abK
 have HQ:Hid (Lz.eV s.data.toList=if d.data.toList=[]\/d.data.toList.any Lz.rL=true then .er 70 else if Lz.cu d.data.toList then Lz.ofO 71 (Lz.gd (Lz.dz d.data.toList))else .ok d.data.toList):=by
  show _=_;rw[HP.out,hd.out,hd0.out]
 have pY:=ac ar az;clear HP Hdl hd0 hd ar az
 go_wp2_with fail
 refine(yV d _).mono ?_;rintro e w3 ⟨i,rfl,hi,aO⟩;have pL:=ac pY aO;by_cases E0:d.data.toList=[]\/d.data.toList.any Lz.rL=true
 ·have HN:Hid (Lz.eV s.data.toList=.er 70):=by show _=_;rw[HQ.out,if_pos E0]
  by_cases hz:d.size=0
  ·have he:=aq hz;clear E0 HQ
   go_wp2
   go_ret2
   rw[HN.out];exact kL (d:=0) pL rfl (by omega)
  ·have he:=an (s:=d) (by omega)
   have o9:0<=i:=by
    have h1:=hi.out;rcases E0 with h|h
    ·exact absurd (by rw[<-aa,h];rfl) hz
    ·rw[h]at h1;exact of_decide_eq_true h1
   clear E0 HQ
   go_wp2
   go_ret2
   rw[HN.out];exact kL (d:=0) pL rfl (by omega)
 ·have ed:d.data.toList≠[]:=fun h=>E0 (Or.inl h);have aaK:0<d.size:=by rw[<-aa];exact List.length_pos_iff.2 ed
  have he:=an aaK
  have o9:¬0<=i:=by
   intro h;have h1:=hi.out;rw[decide_eq_true h]at h1;exact E0 (Or.inr h1.symm)
  have Ia:Hid (Lz.eV s.data.toList=if Lz.cu d.data.toList then Lz.ofO 71 (Lz.gd (Lz.dz d.data.toList))else .ok d.data.toList):=by
   show _=_;rw[HQ.out,if_neg E0]
  have cN:=rA d (by omega) w3 (hE.below pL);generalize Lz.cu d.data.toList=nb at cN Ia;have CN:=Ih cN;clear E0 ed HQ cN
  go_wp2_with fail
  refine(CN.out).mono ?_;rintro e w4 ⟨rfl,dy⟩;have Ib:=ac pL dy;cases nb
  ·have HN:Hid (Lz.eV s.data.toList=.ok d.data.toList):=by show _=_;rw[Ia.out];rfl
   go_wp2
   go_ret2
   rw[HN.out];exact⟨Ib,d,rfl,Ih rfl⟩
  ·have HN:Hid (Lz.eV s.data.toList=Lz.ofO 71 (Lz.gd (Lz.dz d.data.toList))):=by show _=_;rw[Ia.out];rfl
   go_wp2_with fail
   refine(vR d (by omega) _ (hE.below Ib)).mono ?_;rintro e w5 ⟨xs,b,cap,rfl,iW,qS,ba,Lt,ju,hT,aI⟩;have hx5:=ac Ib aI;have cF:=OA b cap xs qS (by omega) (fun x hx=>by have:=ju x hx;omega) w5 (hE.below hx5) hT;have lV:Hid (Lz.eV s.data.toList=Lz.ofO 71 (Lz.gd (xs.map (·.data.toList)))):=by show _=_;rw[HN.out,Lt.out]
   generalize Lz.gd (xs.map (·.data.toList))=o at cF lV;have CF:=Ih cF;clear cF ju hT Lt HN Ia qS ba iW aI
   go_wp2_with fail
   refine(CF.out).mono ?_;rintro e w6 ⟨fX,bA⟩;have hx6:=ac hx5 fX;cases o with
   | none=>
     obtain⟨v,dd,vm,rfl,tG⟩:=bA;have Fs:=Ih tG;clear tG
     go_wp2
     go_ret2
     rw[lV.out];exact⟨hx6,v,dd,vm,rfl,Fs.out⟩
   | some t=>
     obtain⟨u,rfl,hu⟩:=bA
     go_wp2
     go_ret2
     rw[lV.out];exact⟨hx6,u,rfl,hu⟩
def Q3 (s:ByteArray):Prop:=∀W,dQ W->Calls Tryz.prog 205 #[.string s,.string nk] W (aC (s.data.toList.any Lz.eO.contains) W)
theorem Uy:Lz.lC 0=[]:=rfl
theorem vS (s:List UInt8) (c:UInt8):Lib.hasPrefix s [c]=decide (s[0]? =some c):=by
 unfold Lib.hasPrefix;cases s with
 | nil=>rfl
 | cons b r=>
   rw[Lz.ng];by_cases h:c=b
   ·rw[h];simp
   ·have h1:(c==b)=false:=beq_eq_false_iff_ne.2 h;rw[h1,decide_eq_false];intro h2;exact h (Option.some.inj h2).symm
theorem Nw (a:List Nat) (h8:a.length=8) (hl:∀n∈a,n<65536):(Lz.fv a).length<=100:=by
 unfold Lz.fv;have h1:=oN a hl (by omega);have h2:=oN (a.take (Lz.iA 0 a (0,0)).1) (fun n hn=>hl n (List.mem_of_mem_take hn)) (by rw[List.length_take];omega);have h3:=oN (a.drop (Lz.iA 0 a (0,0)).2) (fun n hn=>hl n (List.mem_of_mem_drop hn)) (by rw[List.length_drop];omega);split
 ·omega
 ·rw[List.length_append,List.length_append];show _+2+_<=_;omega
theorem Kd (s:ByteArray) (special:Bool) (hs:s.size<=900000) (hca:special=false->s.data.toList[0]? ≠some 91->Q3 s) (w:World) (hE:dQ w):Calls Tryz.prog 168 #[.string s,.bool special] w (Of (Lz.aN s.data.toList special) w):=by
 obtain⟨q,hq⟩:∃q,q=decide (s.data.toList[0]? =some 91):=⟨_,rfl⟩;have cP:=fun W=>jH s ⟨#[91]⟩ W;rw[show Lib.hasPrefix s.data.toList (ByteArray.data ⟨#[91]⟩).toList=q by rw[hq];exact vS _ _]at cP;have CP:=Ih cP;have Hq:=Ih hq;have Hca:=Ih hca;clear cP hq hca;cases q
 ·have Md:s.data.toList[0]? ≠some 91:=of_decide_eq_false Hq.out.symm;cases special
  ·have HP:Hid (Lz.aN s.data.toList false=if s.data.toList.any Lz.eO.contains then .er 70 else .ok (Lz.aj [] s.data.toList)):=by
    show _=_;unfold Lz.aN;rw[if_neg Md];rfl
   have cA:=Hca.out rfl Md;unfold Q3 at cA;generalize s.data.toList.any Lz.eO.contains=bad at cA HP;have CA:=Ih cA;clear cA Md;go_enter Tryz.func168,Tryz.ntmps168
   go_wp2_with fail
   refine(CP.out _).mono ?_;rintro e w' ⟨rfl,rfl⟩
   go_wp2_with fail
   refine(CA.out _ hE).mono ?_;rintro e w1 ⟨rfl,ar⟩;cases bad
   ·have HN:Hid (Lz.aN s.data.toList false=.ok (Lz.aj [] s.data.toList)):=by show _=_;rw[HP.out];rfl
    go_wp2_with fail
    refine(fB 0 (by omega) s (by omega) _).mono ?_;rintro e w2 ⟨u,rfl,hu,az⟩
    go_wp2
    go_ret2
    rw[HN.out];exact⟨ac ar az,u,rfl,Ih (by rw[hu.out,Uy])⟩
   ·have HN:Hid (Lz.aN s.data.toList false=.er 70):=by show _=_;rw[HP.out];rfl
    go_wp2
    go_ret2
    rw[HN.out];exact kL (d:=0) ar rfl (by omega)
  ·have HP:Hid (Lz.aN s.data.toList true=Lz.eV s.data.toList):=by
    show _=_;unfold Lz.aN;rw[if_neg Md];rfl
   have cD:=Ga s hs w hE;generalize Lz.eV s.data.toList=r at cD HP;have CD:=Ih cD;clear cD Md;go_enter Tryz.func168,Tryz.ntmps168
   go_wp2_with fail
   refine(CP.out _).mono ?_;rintro e w' ⟨rfl,rfl⟩
   go_wp2_with fail
   refine(CD.out).mono ?_;rintro e w1 ⟨ar,bA⟩;cases r with
   | ok t=>
     obtain⟨u,rfl,hu⟩:=bA
     go_wp2
     go_ret2
     rw[HP.out];exact⟨ar,u,rfl,hu⟩
   | er n=>
     obtain⟨v,dd,vm,rfl,tG⟩:=bA;have Fs:=Ih tG;clear tG
     go_wp2
     go_ret2
     rw[HP.out];exact⟨ar,v,dd,vm,rfl,Fs.out⟩
 ·have Md:s.data.toList[0]? =some 91:=of_decide_eq_true Hq.out.symm;have qS:0<s.size:=by rw[<-aa];exact(List.getElem?_eq_some_iff.1 Md).1
  have HP:Hid (Lz.aN s.data.toList special=if s.data.toList.length<2\/s.data.toList.getLast? ≠some 93 then .er 72 else Lz.ofO 72 ((Lz.kD ((s.data.toList.drop 1).dropLast)).map fun a=>[91]++Lz.fv a++[93])):=by
   show _=_;unfold Lz.aN;rw[if_pos Md]
  by_cases h2:s.size<2
  ·have HN:Hid (Lz.aN s.data.toList special=.er 72):=by show _=_;rw[HP.out,if_pos (Or.inl (by rw[aa];exact h2))]
   have LB:(s.size:Int)<2:=by omega
   have Jx:decide ((s.size:Int)<2)=true:=decide_eq_true LB;go_enter Tryz.func168,Tryz.ntmps168
   go_wp2_with fail
   refine(CP.out _).mono ?_;rintro e w' ⟨rfl,rfl⟩
   go_wp2
   go_ret2
   rw[HN.out];exact kL (d:=0) (Below.refl _ _) rfl (by omega)
  ·have LB:¬(s.size:Int)<2:=by omega
   have Jx:decide ((s.size:Int)<2)=false:=decide_eq_false LB;obtain⟨k,hk⟩:∃k,k=s.size-1:=⟨_,rfl⟩;have zo:(s.size:Int)-1=(k:Int):=by omega
   have Po:k<s.size:=by omega
   have XY:(k:Int)<s.size:=by omega
   have yx:(0:Int)<=k:=by omega
   have hk3:(1:Int)<=k:=by omega
   have hk4:(k:Int)<=s.size:=by omega
   have jl:s.data.toList.getLast? =some s[k]:=by
    rw[List.getLast?_eq_getElem?,aa,<-hk];exact aB Po
   have Hk:=Ih hk;have Fl:=Ih jl;clear hk jl;by_cases Ye:s[k]=93
   ·have aca:((s[k].toNat:Int) != 93)=false:=by rw[Ye];rfl
    have OX:Hid ((s.extract 1 k).data.toList=(s.data.toList.drop 1).dropLast):=by
     show _=_;rw[Lib.extract_data,List.dropLast_eq_take,List.length_drop,aa,Hk.out]
    have abZ:(s.extract 1 k).size<=900000:=by have:=aP s 1 k;omega
    have HN:Hid (Lz.aN s.data.toList special=Lz.ofO 72 ((Lz.kD (s.extract 1 k).data.toList).map fun a=>[91]++Lz.fv a++[93])):=by
     show _=_;rw[HP.out,if_neg (by rw[aa,Fl.out,Ye];simp;omega),OX.out]
    have cX:=B5 (s.extract 1 k) (by omega) w hE;have nV:=fun a=>Lz.Bn (s:=(s.extract 1 k).data.toList) (a:=a);generalize Lz.kD (s.extract 1 k).data.toList=o at cX HN nV;have CX:=Ih cX;have Sn:=Ih nV;clear cX nV Ye HP h2 OX abZ;go_enter Tryz.func168,Tryz.ntmps168
    go_wp2_with fail
    refine(CP.out _).mono ?_;rintro e w' ⟨rfl,rfl⟩
    go_wp2_with fail
    refine(CX.out).mono ?_;rintro e w1 ⟨ar,bA⟩;have bC:∀o,(w1.alloc o).heap[w1.heap.size]? =some o:=fun o=>heap_alloc_new w1 o;have OY:=Ih bC;clear bC;cases o with
    | none=>
      obtain⟨v,rfl,tG⟩:=bA;have aas:=fun o=>tG.below ((Below.refl _ w1).alloc (Nat.le_refl _) o);have Fs:=Ih tG;have Z6:=Ih aas;clear aas;obtain⟨p,u,rfl,_,_,_⟩:=tG;have lV:Hid (Lz.aN s.data.toList special=.er 72):=by show _=_;rw[HN.out];rfl
      clear HN
      go_upto_region 5 with(refine jn rfl _ _ rfl w1.heap.size rfl z8 rfl wY rfl _ (OY.out _) rfl ?_)
      generalize uM:(w1.alloc _).setRow w1.heap.size z8=w2;have ee:dF w2 72 1 (.iface 263 (.pointer (some ⟨p,0,none⟩))):=by rw[<-uM];exact(Z6.out _).setRow (OY.out (.cells z8 268)) z8
      have az:Below w.heap.size w w2:=by rw[<-uM];exact below_setRow (ar.alloc ar.size _) ar.size _
      clear uM Fs Z6 OY CX
      go_wp2
      go_ret2
      rw[lV.out];exact kL (n:=72) (d:=1) az ee (by omega)
    | some a=>
      obtain rfl:=bA;obtain⟨ha8,jd⟩:=Sn.out a rfl;have lV:Hid (Lz.aN s.data.toList special=.ok ([91]++Lz.fv a++[93])):=by show _=_;rw[HN.out];rfl
      have nC:=Nw a ha8 jd;have cT:=fun W hW=>MC a ha8 jd W hW;unfold FI at cT;unfold FI;obtain⟨cs,iZ⟩:∃cs,cs=(a.map fun n:Nat=>Value.int .u16 (n:Int)).toArray:=⟨_,rfl⟩;rw[<-iZ]at cT;rw[<-iZ];have Ty:cs.size=8:=by rw[iZ];simp[ha8]
      have iD:cs.all (·.oneCell')=true:=by rw[iZ];simp[Value.oneCell']
      have hci:(Tryz.prog.info? 268).map (·.size)=some cs.size:=by rw[jG,Ty]
      have CT:=Ih cT;have Hc8:=Ih Ty;have Hc1:=Ih iD;have Hci:=Ih hci;clear cT Ty iD hci ha8 jd iZ Sn HN
      go_upto_region 5 with(refine jn rfl _ _ rfl w1.heap.size rfl cs Hc8.out Hc1.out rfl _ (OY.out _) rfl ?_)
      generalize uM:(w1.alloc _).setRow w1.heap.size cs=w2;have bB:w2.heap[w1.heap.size]? =some (.cells cs 268 (0,0)):=by rw[<-uM];exact setRow_heap _ _ _ _ _ _ (OY.out _)
      have az:Below w.heap.size w w2:=by rw[<-uM];exact below_setRow (ar.alloc ar.size _) ar.size _
      have Mh:=Ih bB;clear uM OY CX bB
      go_wp2_with (refine wpList_load_row rfl 268 _ rfl w1.heap.size rfl 268 _ (0,0) _ Mh.out Tryz.underlying268 rfl Hci.out ?_)
      with_reducible refine(CT.out _ (hE.below az)).mono ?_
      rintro e w3 ⟨u,rfl,hu,aO⟩;have XG:u.size<=100:=by rw[<-aa,hu.out];exact nC
      have aU:¬(9223372036854775807<1+u.size):=by omega
      have dN:¬(9223372036854775807<1+u.size+1):=by omega
      go_wp2
      go_ret2
      rw[lV.out];refine⟨ac az aO,_,rfl,Ih ?_⟩;rw[be,be,hu.out]
   ·have aca:((s[k].toNat:Int) != 93)=true:=by
     have:((s[k].toNat:Int)==93)=false:=(Kr s[k] 93).trans (beq_eq_false_iff_ne.2 Ye);simp only[bne,this];rfl
    have HN:Hid (Lz.aN s.data.toList special=.er 72):=by
     show _=_;rw[HP.out,if_pos];right;rw[Fl.out];intro h;exact Ye (Option.some.inj h)
    clear Ye;go_enter Tryz.func168,Tryz.ntmps168
    go_wp2_with fail
    refine(CP.out _).mono ?_;rintro e w' ⟨rfl,rfl⟩
    go_wp2
    go_ret2
    rw[HN.out];exact kL (d:=0) (Below.refl _ _) rfl (by omega)
def Ru:Lz.Res->List UInt8
 | .ok t=>t
 | .er _=>[]
def resE:Lz.Res->Nat
 | .ok _=>0
 | .er n=>n
def Q1 (r:Lz.Res) (w:World) (e:Ending) (w':World):Prop:=
 ∃u:ByteArray,e=.returned (.tuple #[.string u,.int .i64 (resE r:Nat)])/\Hid (u.data.toList=Ru r)/\Below w.heap.size w w'
theorem wQ (s:ByteArray) (special:Bool) (hs:s.size<=900000) (hca:special=false->s.data.toList[0]? ≠some 91->Q3 s) (w:World) (hE:dQ w):Calls Tryz.prog 135 #[.string s,.bool special] w (Q1 (Lz.aN s.data.toList special) w):=by
 have cH:=Kd s special hs hca w hE;generalize Lz.aN s.data.toList special=r at cH⊢;have CH:=Ih cH;clear cH hca;go_enter Tryz.func135,Tryz.ntmps135
 go_wp2_with fail
 refine(CH.out).mono ?_;rintro e w1 ⟨ar,bA⟩;cases r with
 | ok t=>
   obtain⟨u,rfl,hu⟩:=bA
   go_wp2
   go_ret2
   exact⟨u,rfl,hu,ar⟩
 | er n=>
   obtain⟨v,d,hd,rfl,tG⟩:=bA;have cC:=MA d hd (n:Int) v w1 (hE.below ar) tG;have CC:=Ih cC;clear cC;obtain⟨t0,x0,rfl⟩:=tG.iface
   go_wp2_with fail
   refine(CC.out).mono ?_;rintro e w2 ⟨rfl,az⟩
   go_wp2
   go_ret2
   exact⟨⟨#[]⟩,rfl,Ih rfl,ac ar az⟩
end Go.Proofs.YtecoeebjaleeiaaGreatDoor
namespace Lz
open Go
theorem mW (s:ByteArray) (j:Nat) (h:j<s.size):(s.get! j).toNat=(s[j]'h).toNat:=by
 congr 1;show s.data[j]! =_;rw[getElem!_pos s.data j h];rfl
theorem Ef (s:ByteArray) (pos:Nat) (h:pos<s.size) (hb:128<=(s[pos]'h).toNat) (j:Nat) (h1:pos<=j) (h2:j<pos+(Utf8.decode s pos).2) (hj:j<s.size):128<=(s[j]'hj).toNat:=by
 rw[Lib.decode_at]at h2;have e0:=mW s pos h;by_cases hp:j=pos
 ·subst hp;exact hb
 rcases Lib.decodeN_shape (s.size-pos) (s.get! pos).toNat (s.get! (pos+1)).toNat (s.get! (pos+2)).toNat (s.get! (pos+3)).toNat with⟨h3,_⟩|⟨_,hn,c1,_,h3⟩|⟨_,hn,c1,c2,_,_,h3⟩|⟨_,hn,c1,c2,c3,_,_,h3⟩|h3
 ·omega
 ·rw[h3]at h2;simp only at h2;obtain rfl:j=pos+1:=by omega
  have:=mW s (pos+1) hj;omega
 ·rw[h3]at h2;simp only at h2;obtain rfl|rfl:j=pos+1\/j=pos+2:=by omega
  ·have:=mW s (pos+1) hj;omega
  ·have:=mW s (pos+2) hj;omega
 ·rw[h3]at h2;simp only at h2;obtain rfl|rfl|rfl:j=pos+1\/j=pos+2\/j=pos+3:=by omega
  ·have:=mW s (pos+1) hj;omega
  ·have:=mW s (pos+2) hj;omega
  ·have:=mW s (pos+3) hj;omega
 ·rw[h3]at h2;simp only at h2;omega
theorem xQ (s:ByteArray) (pos:Nat):Utf8.valid ((Utf8.decode s pos).1:Int)=true:=by
 have aV:(s.get! pos).toNat<256:=(s.get! pos).toNat_lt;have:=Lib.decodeN_valid (s.size-pos) (s.get! pos).toNat (s.get! (pos+1)).toNat (s.get! (pos+2)).toNat (s.get! (pos+3)).toNat aV;rw[<-Lib.decode_at]at this;rw[validRune_eq];unfold validRune;rw[decide_eq_true_eq];omega
theorem DI (q:UInt8->Bool) (l:Bs) (pos:Nat):∀k,(∀j b,pos<=j->j<pos+k->l[j]? =some b->q b=false)->(l.drop pos).any q=(l.drop (pos+k)).any q
 | 0,_=>rfl
 | k+1,h=>by
   rw[DI q l pos k fun j b h1 h2 hj=>h j b h1 (by omega) hj];by_cases hl:pos+k<l.length
   ·rw[List.drop_eq_getElem_cons hl,List.any_cons,h (pos+k) l[pos+k] (by omega) (by omega) (List.getElem?_eq_getElem hl)];rfl
   ·rw[List.drop_eq_nil_of_le (by omega),List.drop_eq_nil_of_le (by omega)]
end Lz
namespace Go.Proofs.YtecoeebjaleeiaaGreatDoor
open Go.RowKit
theorem zg (ch:ByteArray) (ha:∀c∈ch.data.toList,c.toNat<128) (w:World):Calls Tryz.prog 132 #[.string ch,.int .i32 65533] w (D3 (-1) w):=by
 have Ha:=Ih ha;clear ha;go_enter Tryz.func132,Tryz.ntmps132
 go_wp2
 go_loopg [] ch.size (fun gf wx=>∃pos:Nat,wx.heap[w.heap.size]? =some (.stringIter ch pos)/\Below w.heap.size w wx/\ch.size<=pos+gf)
 case atStart=>exact⟨0,World.iter_heap w ch 0,(Below.refl _ w).alloc (Nat.le_refl _) _,by omega⟩
 case round=>
  obtain⟨pos,hit,aK,hfu⟩:=hrel;by_cases kN:pos<ch.size
  ·obtain⟨g',rfl⟩:∃g',gk=g'+1:=⟨gk-1,by omega⟩;have Fi:∀ty,(Instr.next (.pointer (some ⟨w.heap.size,0,none⟩)) true ty).run Tryz.prog wr=_:=fun ty=>Lib.run_next_any_at wr w.heap.size ch pos ty hit kN;have SF:(ch[pos]'kN).toNat<128:=Ha.out _ (by rw[List.mem_iff_getElem?];exact⟨pos,aB kN⟩);rw[decode_ascii ch pos kN SF]at Fi;have vo:=Lib.iterAt_heap wr w.heap.size ch pos (pos+1) hit;have ft:=Lib.below_iterAt aK (k:=w.heap.size) (Nat.le_refl _) ch (pos+1);generalize wr.iterAt w.heap.size ch (pos+1)=W at Fi vo ft;have ed:(((ch[pos]'kN).toNat:Int)==65533)=false:=beq_eq_false_iff_ne.2 (by omega);generalize (ch[pos]'kN).toNat=R at Fi ed;clear SF
   go_wp2
   go_roundg g'
   case measure=>omega
   case rel=>exact⟨pos+1,vo,ft,by omega⟩
  ·have Fi:∀ty,(Instr.next (.pointer (some ⟨w.heap.size,0,none⟩)) true ty).run Tryz.prog wr=_:=fun ty=>Lib.run_next_end_at wr w.heap.size ch pos ty hit kN
   go_wp2
   go_ret;exact⟨rfl,aK⟩
theorem De (r:Int) (w:World):Calls Tryz.prog 166 #[.int .i32 r] w fun e w'=>e=.returned (.bool (Lib.validRune r))/\w=w':=(Tryz.utf8_ValidRune r w).mono fun _ _ ⟨h1,h2⟩=>⟨h1,h2.symm⟩
theorem xJ (ch:ByteArray) (a b:Nat) (ha:∀c∈ch.data.toList,c.toNat<128) (c:UInt8) (hc:128<=c.toNat):Lib.indexByte (ch.extract a b).data.toList c= -1:=by
 apply Lz.lZ
 intro h;have:=ha c (mem_extract h);omega
theorem zb (ch:ByteArray) (ha:∀c∈ch.data.toList,c.toNat<128) (r:Int) (SF:128<=r) (hr:Utf8.valid r=true) (ed:r≠65533) (w:World):Calls Tryz.prog 132 #[.string ch,.int .i32 r] w (D3 (-1) w):=by
 have hv:Lib.validRune r=true:=by
  show validRune r=true;rw[<-validRune_eq];exact hr
 obtain⟨bU,ee,Lv⟩:=encode_facts r hr SF;have ac6:(r==65533)=false:=beq_eq_false_iff_ne.2 ed;have qV:(0:Int)<=r:=by omega
 have bC:¬r<128:=by omega
 have acQ:decide (r<128)=false:=decide_eq_false bC;have cV:=De r w;rw[hv]at cV;have CV:=Ih cV;have Ha:=Ih ha;clear cV hv hr ed ha;have pJ:∀W,(convert 21 9 (.int .i32 r)).run Tryz.prog W=.ok (.string (Utf8.encode r)) W:=fun W=>run_convert_int_string W 21 9 .i32 r (by rw[Tryz.underlying21];rfl) Tryz.underlying9;generalize Utf8.encode r=rs at bU ee Lv pJ;obtain⟨k,hk⟩:∃k,k=rs.size-1:=⟨_,rfl⟩;have Po:k<rs.size:=by omega
 have hkI:(rs.size:Int)-1=(k:Int):=by omega
 have hk3:k<=3:=by omega
 have h8:128<=(rs[k]'Po).toNat:=by subst hk;exact Lv Po
 clear hk bU ee Lv;have yx:(0:Int)<=(k:Int):=by omega
 have hkr:(k:Int)<(rs.size:Int):=by omega
 go_enter Tryz.func132,Tryz.ntmps132
 go_wp2_with fail
 refine(CV.out).mono ?_;rintro e w' ⟨rfl,rfl⟩;by_cases hkc:k<ch.size
 ·have acy:(k:Int)<(ch.size:Int):=by omega
  have T9:(((ch[k]'hkc).toNat:Int) != ((rs[k]'Po).toNat:Int))=true:=by
   have:=Ha.out (ch[k]'hkc) (by rw[List.mem_iff_getElem?];exact⟨k,aB hkc⟩)
   simp;omega
  have hib:=xJ ch (k+1) ch.size Ha.out (rs[k]'Po) h8;have cI:=fun W=>lI (ch.extract (k+1) ch.size) (rs[k]'Po) W;rw[hib]at cI;have CI:∀W,Calls Tryz.prog 64 #[.string (ch.extract (k+1) ch.size),.int .u8 ((rs[k]'Po).toNat:Int)] W fun e w'=>e=.returned (.int .i64 (-1))/\w'=W:=fun W=>(cI W).mono fun _ _ ⟨h1,h2⟩=>⟨h1,h2.symm⟩;have km:IntKind.i64.wrap ((k:Int)+1)=(k:Int)+1:=IntWalk.i64_in _ (by omega);have zo:(0:Int)<=(k:Int)+1:=by omega
  have XY:(k:Int)+1<=(ch.size:Int):=by omega
  have hk4:((k:Int)+1).toNat=k+1:=by omega
  have HCI:=Ih CI;clear CI cI hib h8
  go_wp2_with fail
  go_step3
  go_wp2_with fail
  refine wp_loop_rounds 1 ?_;rw[rounds_succ]
  go_wp2_with fail
  go_step3
  go_wp2_with fail
  go_quiet (fail)
  have ar:Below w.heap.size w (w.drewN nq):=below_drewN (Below.refl _ w) nq;generalize w.drewN nq=wa at ar⊢
  go_wp2_with fail
  go_quiet ((go_at_call 64;exact Calls.quiet_of_same (HCI.out _)))
  go_wp2
  rw[Exit.noGoto_ret];go_ret;exact⟨rfl,below_drewN ar _⟩
 ·have acy:¬(k:Int)<(ch.size:Int):=by omega
  clear h8
  go_wp2_with fail
  go_step3
  go_wp2_with fail
  refine wp_loop_rounds 1 ?_;rw[rounds_succ]
  go_wp2
  first |rw[Exit.noGoto_ret]|skip
  go_ret;exact⟨rfl,Below.refl _ _⟩
theorem pO (c:UInt8):∀l:List UInt8,decide (0<=Lib.indexByte l c)=l.contains c
 | []=>rfl
 | b::l=>by
   have ih:=pO c l;have Iv:=Lib.indexByte_ge l c;rw[Lib.indexByte,List.contains_cons,<-ih];by_cases h:b=c
   ·subst h;simp
   ·have h1:(b==c)=false:=beq_eq_false_iff_ne.2 h;have h2:(c==b)=false:=beq_eq_false_iff_ne.2 fun e=>h e.symm;rw[h1,h2,Bool.false_or,if_neg (by simp),Bool.eq_iff_iff,decide_eq_true_eq,decide_eq_true_eq];by_cases h3:Lib.indexByte l c= -1
    ·rw[h3];simp
    ·rw[if_neg (by simpa using h3)];omega
theorem pW (ch:ByteArray) (ha:∀c∈ch.data.toList,c.toNat<128) (r:Nat) (hr:Utf8.valid (r:Int)=true) (w:World):
  Calls Tryz.prog 132 #[.string ch,.int .i32 (r:Int)] w fun e w'=>∃i:Int,e=.returned (.int .i64 i)/\Hid (decide (0<=i)=(decide (r<128)&&ch.data.toList.contains (UInt8.ofNat r)))/\Below w.heap.size w w':=by
 rcases Nat.lt_or_ge r 128 with h|h
 ·refine(Tryz.strings_IndexRune_ascii ch (r:Int) w (by omega) (by omega)).mono ?_;rintro e w' ⟨he,rfl⟩;refine⟨_,he,Ih ?_,Below.refl _ _⟩;rw[show((r:Int)).toNat.toUInt8=UInt8.ofNat r from rfl,decide_eq_true h,Bool.true_and];exact pO _ _
 ·by_cases h2:r=65533
  ·subst h2;refine(zg ch ha w).mono ?_;rintro e w' ⟨he,hb⟩;exact⟨-1,he,Ih (by rfl),hb⟩
  ·refine(zb ch ha (r:Int) (by omega) hr (by omega) w).mono ?_;rintro e w' ⟨he,hb⟩;exact⟨-1,he,Ih (by rw[decide_eq_false (show ¬r<128 by omega)];rfl),hb⟩
theorem Br (s ch:ByteArray) (h8:s.size<=8) (h2:2<=ch.size) (ha:∀c∈ch.data.toList,c.toNat<128) (w:World):
  Calls Tryz.prog 134 #[.string s,.string ch] w fun e w'=>∃i:Int,e=.returned (.int .i64 i)/\Hid (decide (0<=i)=s.data.toList.any ch.data.toList.contains)/\Below w.heap.size w w':=by
 have he:=an (s:=ch) (by omega);have iD:((ch.size:Int)==1)=false:=beq_eq_false_iff_ne.2 (by omega);have cU:=fun W=>Tryz.strings_shouldUseASCIISet (s.size:Int) W;rw[decide_eq_false (show ¬(8:Int)<(s.size:Int) by omega)]at cU;have CU:=Ih fun W=>(cU W).mono fun _ _ (h:_/\_)=>(⟨h.1,h.2.symm⟩:_/\W=_);have Ha:=Ih ha;clear cU ha;go_enter Tryz.func134,Tryz.ntmps134
 go_wp2_with fail
 refine(CU.out _).mono ?_;rintro e w' ⟨rfl,rfl⟩
 go_wp2
 go_loopg [] s.size (fun gf wx=>∃pos:Nat,wx.heap[w.heap.size]? =some (.stringIter s pos)/\Below w.heap.size w wx/\s.size<=pos+gf/\Hid (s.data.toList.any ch.data.toList.contains=(s.data.toList.drop pos).any ch.data.toList.contains))
 case atStart=>exact⟨0,World.iter_heap w s 0,(Below.refl _ w).alloc (Nat.le_refl _) _,by omega,Ih (by rw[List.drop_zero])⟩
 case round=>
  obtain⟨pos,hit,aK,hfu,hS⟩:=hrel;by_cases kN:pos<s.size
  ·obtain⟨g',rfl⟩:∃g',gk=g'+1:=⟨gk-1,by omega⟩;have Fi:∀ty,(Instr.next (.pointer (some ⟨w.heap.size,0,none⟩)) true ty).run Tryz.prog wr=_:=fun ty=>Lib.run_next_any_at wr w.heap.size s pos ty hit kN;have hwd:=Lib.width_pos s pos;have jv:=Lz.xQ s pos
   have bZ:Hid ((s.data.toList.drop pos).any ch.data.toList.contains=((decide ((Utf8.decode s pos).1<128)&&ch.data.toList.contains (UInt8.ofNat (Utf8.decode s pos).1))||(s.data.toList.drop (pos+(Utf8.decode s pos).2)).any ch.data.toList.contains)):=by
    show _=_;rcases Nat.lt_or_ge (s[pos]'kN).toNat 128 with h1|h1
    ·rw[decode_ascii s pos kN h1]
     have hd:s.data.toList.drop pos=s[pos]::s.data.toList.drop (pos+1):=by
      rw[List.drop_eq_getElem_cons (show pos<s.data.toList.length from kN)];rfl
     rw[hd,List.any_cons,decide_eq_true h1]
     simp
    ·have hr:=Lz.vC s pos kN h1;rw[decide_eq_false (by omega),Bool.false_and,Bool.false_or];refine Lz.DI _ _ _ _ ?_;intro j b h3 h4 hj;have nP:j<s.size:=by rw[<-aa];exact(List.getElem?_eq_some_iff.1 hj).1
     have h5:=Lz.Ef s pos kN h1 j h3 h4 nP;rw[aB nP]at hj;rw[Option.some.inj hj]at h5;rw[Bool.eq_false_iff];intro hm;have:=Ha.out b (List.contains_iff_mem.1 hm);omega
   generalize hR:(Utf8.decode s pos).1=R at Fi jv bZ;generalize hK:(Utf8.decode s pos).2=K at Fi hwd bZ;clear hR hK;have vo:=Lib.iterAt_heap wr w.heap.size s pos (pos+K) hit;have ft:=Lib.below_iterAt aK (k:=w.heap.size) (Nat.le_refl _) s (pos+K);have Fj:w.heap.size<(wr.iterAt w.heap.size s (pos+K)).heap.size:=(Array.getElem?_eq_some_iff.1 vo).1;generalize wr.iterAt w.heap.size s (pos+K)=W at Fi vo ft Fj;have CI:=Ih (pW ch Ha.out R jv W);have Xi:=Ih vo;clear jv vo hit
   go_wp2_with fail
   refine(CI.out).mono ?_;rintro e w2 ⟨i,rfl,hi,az⟩;have Xj:Hid (w2.heap[w.heap.size]? =some (.stringIter s (pos+K))):=by show _=_;rw[az.block _ Fj];exact Xi.out
   have jc:Below w.heap.size w w2:=ft.trans (az.mono ft.size);by_cases o9:0<=i
   ·have HD:Hid (s.data.toList.any ch.data.toList.contains=true):=by
     show _=_;have h1:=hi.out;rw[decide_eq_true o9]at h1;rw[hS.out,bZ.out,<-h1];rfl
    go_wp2
    go_ret;exact⟨(pos:Int),rfl,Ih (by rw[HD.out];exact decide_eq_true (by omega)),jc⟩
   ·have HD:Hid (s.data.toList.any ch.data.toList.contains=(s.data.toList.drop (pos+K)).any ch.data.toList.contains):=by
     show _=_;have h1:=hi.out;rw[decide_eq_false o9]at h1;rw[hS.out,bZ.out,<-h1];rfl
    go_wp2
    go_roundg g'
    case measure=>omega
    case rel=>exact⟨pos+K,Xj.out,jc,by omega,HD⟩
  ·have Fi:∀ty,(Instr.next (.pointer (some ⟨w.heap.size,0,none⟩)) true ty).run Tryz.prog wr=_:=fun ty=>Lib.run_next_end_at wr w.heap.size s pos ty hit kN
   have HD:Hid (s.data.toList.any ch.data.toList.contains=false):=by
    show _=_;rw[hS.out,List.drop_eq_nil_of_le (by rw[aa];omega)];rfl
   go_wp2
   go_ret;exact⟨-1,rfl,Ih (by rw[HD.out];rfl),aK⟩
theorem IR:(Tryz.prog.info? 154).map (fun i=>(i.zero,i.size))=some (some (.agg (Array.replicate 256 (.bool false))),256):=by kernel_rfl
theorem Bi (s ch:ByteArray) (hs:s.size<=1073741824) (h2:2<=ch.size) (hz:ch.size<=1000) (ha:∀c∈ch.data.toList,c.toNat<128) (w:World):
  Calls Tryz.prog 134 #[.string s,.string ch] w fun e w'=>∃i:Int,e=.returned (.int .i64 i)/\Hid (decide (0<=i)=s.data.toList.any ch.data.toList.contains)/\Below w.heap.size w w':=by
 by_cases h8:s.size<=8
 ·exact Br s ch h8 h2 ha w
 ·refine(Tryz.strings_IndexAny_long (zero_of_info IR).1 s ch w h2 (by omega) (by omega) (by omega) (fun j b hj=>ha b (List.mem_of_getElem? hj))).mono ?_;rintro e w' ⟨he,hw⟩;refine⟨_,he,Ih ?_,?_⟩
  ·have:=Lz.wN s.data.toList ch.data.toList;unfold Lib.containsAny at this;exact this
  ·rw[hw];exact((Below.refl _ w).alloc (Nat.le_refl _) _).alloc (by simp) _
theorem GC:∀c∈nk.data.toList,c.toNat<128:=by decide
theorem OB (s:ByteArray) (hs:s.size<=1073741824):Q3 s:=by
 intro W _;have cI:=Ih (Bi s nk hs (by decide) (by decide) GC W);have hB:s.data.toList.any nk.data.toList.contains=s.data.toList.any Lz.eO.contains:=rfl;rw[hB]at cI;generalize s.data.toList.any Lz.eO.contains=q at cI⊢;clear hB;go_enter Tryz.func205,Tryz.ntmps205
 go_wp2_with fail
 refine(cI.out).mono ?_;rintro e w1 ⟨i,rfl,hi,hb⟩;have Hi:=Ih hi.out.symm;clear hi
 go_wp2
 go_ret;exact⟨by rw[Hi.out];rfl,hb⟩
end Go.Proofs.YtecoeebjaleeiaaGreatDoor
