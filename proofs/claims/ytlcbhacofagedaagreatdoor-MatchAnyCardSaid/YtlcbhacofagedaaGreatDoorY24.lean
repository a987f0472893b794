/-
  Package urls: read, without a base.
-/
import Derived.Test.YtlcbhacofagedaaGreatDoorY23
import Derived.Test.YtlcbhacofagedaaGreatDoorY20
set_option maxHeartbeats 4000000
set_option maxRecDepth 1000000
namespace Lz
open Go
theorem sx (ch:Bs):∀l:Bs,Lib.indexAny l ch=match plQ ch.contains l with|some n=>(n:Int)|none=> -1
 | []=>rfl
 | c::r=>by
   have ih:=sx ch r;rw[Lib.indexAny,plQ,List.findIdx?_cons];cases hc:ch.contains c with
   | true=>simp
   | false=>
     simp only[Bool.false_eq_true,if_false];rw[ih];show _=_;cases hp:plQ ch.contains r with
     | none=>
       have:List.findIdx? ch.contains r=none:=hp
       simp[this]
     | some n=>
       have:List.findIdx? ch.contains r=some n:=hp;simp only[this,Option.map_some];rw[if_neg (by rw[beq_iff_eq];omega)]
       simp
end Lz
namespace Go.Proofs.YtlcbhacofagedaaGreatDoor
open Go.RowKit
theorem pk (c:UInt8):∀l:List UInt8,Lib.indexByte l c=l3 (Lz.plQ ([c]:List UInt8).contains l)
 | []=>rfl
 | b::l=>by
   have ih:=pk c l;rw[Lib.indexByte,Lz.plQ,List.findIdx?_cons];by_cases h:b=c
   ·subst h;simp[l3]
   ·have h1:([c]:List UInt8).contains b=false:=by simp[h]
    rw[h1,if_neg (by simpa using h),ih];show _=l3 (if false=true then some 0 else Option.map (fun i=>i+1) (Lz.plQ ([c]:List UInt8).contains l));cases Lz.plQ ([c]:List UInt8).contains l with
    | none=>simp[l3]
    | some n=>
      have hb:((n:Int)== -1)=false:=by rw[beq_eq_false_iff_ne];omega
      show(if((n:Int)== -1)=true then(-1:Int)else(n:Int)+1)=_;rw[hb];simp[l3]
theorem vZ (ch l:List UInt8):Lib.indexAny l ch=l3 (Lz.plQ ch.contains l):=by
 rw[Lz.sx];cases Lz.plQ ch.contains l<;>rfl
theorem wz (s ch:ByteArray) (h8:s.size<=8) (h2:2<=ch.size) (ha:∀c∈ch.data.toList,c.toNat<128) (w:World):
  Calls Tryz.prog 219 #[.string s,.string ch] w fun e w'=>∃o:Option Nat,e=.returned (.int .i64 (l3 o))/\Hid (o=Lz.plQ ch.data.toList.contains s.data.toList)/\Below w.heap.size w w':=by
 have he:=aj (s:=ch) (by omega);have j7:((ch.size:Int)==1)=false:=beq_eq_false_iff_ne.2 (by omega);have cU:=fun W=>Tryz.strings_shouldUseASCIISet (s.size:Int) W;rw[decide_eq_false (show ¬(8:Int)<(s.size:Int) by omega)]at cU;have CU:=Ih fun W=>(cU W).mono fun _ _ (h:_/\_)=>(⟨h.1,h.2.symm⟩:_/\W=_);have Ha:=Ih ha;clear cU ha;go_enter Tryz.func219,Tryz.ntmps219
 go_wp2_with fail
 refine(CU.out _).mono ?_;rintro e w' ⟨rfl,rfl⟩
 go_wp2
 go_loopg [] s.size (fun gf wx=>∃pos:Nat,wx.heap[w.heap.size]? =some (.stringIter s pos)/\Below w.heap.size w wx/\s.size<=pos+gf/\Hid (Lz.plQ ch.data.toList.contains s.data.toList=(Lz.plQ ch.data.toList.contains (s.data.toList.drop pos)).map (·+pos)))
 case atStart=>exact⟨0,World.iter_heap w s 0,(Below.refl _ w).alloc (Nat.le_refl _) _,by omega,Ih (by rw[List.drop_zero];cases Lz.plQ ch.data.toList.contains s.data.toList<;>rfl)⟩
 case round=>
  obtain⟨pos,hit,bi,hfu,hS⟩:=hrel;by_cases lV:pos<s.size
  ·obtain⟨g',rfl⟩:∃g',gk=g'+1:=⟨gk-1,by omega⟩;have Dv:∀ty,(Instr.next (.pointer (some ⟨w.heap.size,0,none⟩)) true ty).run Tryz.prog wr=_:=fun ty=>Lib.run_next_any_at wr w.heap.size s pos ty hit lV;have hwd:=Lib.width_pos s pos;have qE:=Lz.tR s pos
   have cw:Hid ((Lz.plQ ch.data.toList.contains (s.data.toList.drop pos)).map (·+pos)=if(decide ((Utf8.decode s pos).1<128)&&ch.data.toList.contains (UInt8.ofNat (Utf8.decode s pos).1))=true then some pos else(Lz.plQ ch.data.toList.contains (s.data.toList.drop (pos+(Utf8.decode s pos).2))).map (·+(pos+(Utf8.decode s pos).2))):=by
    show _=_;rcases Nat.lt_or_ge (s[pos]'lV).toNat 128 with h1|h1
    ·rw[decode_ascii s pos lV h1]
     have hd:s.data.toList.drop pos=s[pos]::s.data.toList.drop (pos+1):=by
      rw[List.drop_eq_getElem_cons (show pos<s.data.toList.length from lV)];rfl
     rw[hd,Lz.plQ,List.findIdx?_cons,decide_eq_true h1];simp only[Bool.true_and,UInt8.ofNat_toNat];cases ch.data.toList.contains s[pos]with
     | true=>simp
     | false=>
       simp only[Bool.false_eq_true,if_false];show _=Option.map _ (Lz.plQ ch.data.toList.contains (s.data.toList.drop (pos+1)));show Option.map _ (Option.map _ (Lz.plQ ch.data.toList.contains (s.data.toList.drop (pos+1))))=_;cases Lz.plQ ch.data.toList.contains (s.data.toList.drop (pos+1))with
       | none=>rfl
       | some n=>simp;omega
    ·have hr:=Lz.tD s pos lV h1;rw[decide_eq_false (by omega),Bool.false_and,if_neg (by simp)];refine Lz.Bw _ _ _ _ ?_;intro j b h3 h4 hj;have jR:j<s.size:=by rw[<-aa];exact(List.getElem?_eq_some_iff.1 hj).1
     have h5:=Lz.Ci s pos lV h1 j h3 h4 jR;rw[aw jR]at hj;rw[Option.some.inj hj]at h5;rw[Bool.eq_false_iff];intro hm;have:=Ha.out b (List.contains_iff_mem.1 hm);omega
   generalize hR:(Utf8.decode s pos).1=R at Dv qE cw;generalize hK:(Utf8.decode s pos).2=K at Dv hwd cw;clear hR hK;have tg:=Lib.iterAt_heap wr w.heap.size s pos (pos+K) hit;have fw:=Lib.below_iterAt bi (k:=w.heap.size) (Nat.le_refl _) s (pos+K);have Dk:w.heap.size<(wr.iterAt w.heap.size s (pos+K)).heap.size:=(Array.getElem?_eq_some_iff.1 tg).1;generalize wr.iterAt w.heap.size s (pos+K)=W at Dv tg fw Dk;have CI:=Ih (nY ch Ha.out R qE W);have Wi:=Ih tg;clear qE tg hit
   go_wp2_with fail
   refine(CI.out).mono ?_;rintro e w2 ⟨i,rfl,hi,aU⟩;have Wf:Hid (w2.heap[w.heap.size]? =some (.stringIter s (pos+K))):=by show _=_;rw[aU.block _ Dk];exact Wi.out
   have iO:Below w.heap.size w w2:=fw.trans (aU.mono fw.size);by_cases nP:0<=i
   ·have HD:Hid (some pos=Lz.plQ ch.data.toList.contains s.data.toList):=by
     show _=_;have h1:=hi.out;rw[decide_eq_true nP]at h1;rw[hS.out,cw.out,if_pos h1.symm]
    go_wp2
    go_ret;exact⟨some pos,rfl,HD,iO⟩
   ·have HD:Hid (Lz.plQ ch.data.toList.contains s.data.toList=(Lz.plQ ch.data.toList.contains (s.data.toList.drop (pos+K))).map (·+(pos+K))):=by
     show _=_;have h1:=hi.out;rw[decide_eq_false nP]at h1;rw[hS.out,cw.out,if_neg (by rw[<-h1];simp)]
    go_wp2
    go_roundg g'
    case measure=>omega
    case rel=>exact⟨pos+K,Wf.out,iO,by omega,HD⟩
  ·have Dv:∀ty,(Instr.next (.pointer (some ⟨w.heap.size,0,none⟩)) true ty).run Tryz.prog wr=_:=fun ty=>Lib.run_next_end_at wr w.heap.size s pos ty hit lV
   have HD:Hid (none=Lz.plQ ch.data.toList.contains s.data.toList):=by
    show _=_;rw[hS.out,List.drop_eq_nil_of_le (by rw[aa];omega)];rfl
   go_wp2
   go_ret;exact⟨none,rfl,HD,bi⟩
theorem yR (s ch:ByteArray) (hch:ch.data.toList=[47]) (w:World):Calls Tryz.prog 219 #[.string s,.string ch] w fun e w'=>∃o:Option Nat,e=.returned (.int .i64 (l3 o))/\Hid (o=Lz.plQ ([47]:List UInt8).contains s.data.toList)/\Below w.heap.size w w':=by
 have hz:ch.size=1:=by rw[<-aa,hch];rfl
 have hp:0<ch.size:=by omega
 have hpI:(0:Int)<(ch.size:Int):=by omega
 have he:=aj (s:=ch) hp;have j7:((ch.size:Int)==1)=true:=by rw[hz];rfl
 have h0:ch[0]=47:=by
  have:=aw (s:=ch) (n:=0) hp;rw[hch]at this;simpa using this.symm
 have h0I:(ch[0].toNat:Int)=47:=by rw[h0];rfl
 have cI:=Tryz.strings_IndexRune_ascii s 47;have CI:=Ih (fun W=>(cI W (by omega) (by omega)).mono fun _ _ (h:_/\_)=>(⟨h.1,h.2.symm⟩:_/\W=_));have hV:Lib.indexByte s.data.toList (47:Int).toNat.toUInt8=l3 (Lz.plQ ([47]:List UInt8).contains s.data.toList):=pk 47 _;rw[hV]at CI;clear hV cI hch h0 hz;go_enter Tryz.func219,Tryz.ntmps219
 go_wp2_with fail
 refine(CI.out _).mono ?_;rintro e w' ⟨rfl,rfl⟩
 go_wp2_with fail
 go_ret;exact⟨_,rfl,Ih rfl,Below.refl _ _⟩
theorem Cv (s:ByteArray) (hs:s.size<=1073741824) (sp:Bool) (w:World):Calls Tryz.prog 219 #[.string s,.string (cm sp)] w fun e w'=>∃o:Option Nat,e=.returned (.int .i64 (l3 o))/\Hid (o=Lz.plQ (Lz.aG sp) s.data.toList)/\Below w.heap.size w w':=by
 cases sp with
 | false=>
   have:=yR s ⟨#[47]⟩ rfl w;rw[show([47]:List UInt8).contains=Lz.aG false from Lz.js false]at this;exact this
 | true=>
   have hc:([47,92]:List UInt8).contains=Lz.aG true:=Lz.js true;have ha:∀c∈(cm true).data.toList,c.toNat<128:=by decide
   by_cases h8:s.size<=8
   ·have:=wz s (cm true) h8 (by decide) ha w;rw[show(cm true).data.toList.contains=Lz.aG true from hc]at this;exact this
   ·refine(Tryz.strings_IndexAny_long (zero_of_info G4).1 s (cm true) w (by decide) (by omega) (by omega) (by decide) (fun j b hj=>ha b (List.mem_of_getElem? hj))).mono ?_;rintro e w' ⟨he,hw⟩;refine⟨_,by rw[he,vZ],Ih (by rw[show(cm true).data.toList.contains=Lz.aG true from hc]),?_⟩;rw[hw];exact((Below.refl _ w).alloc (Nat.le_refl _) _).alloc (by simp) _
theorem tM (M:Nat) (sp:Bool) (s:ByteArray) (hs:s.size<=1073741824) (w:World) (pc:w.cell? ⟨M,13,none⟩=some (.string (cm sp))):
  Calls Tryz.prog 174 #[.pointer (some ⟨M,0,none⟩),.string s] w (pq (Lz.dn sp s.data.toList).1 (Lz.dn sp s.data.toList).2.1 (Lz.dn sp s.data.toList).2.2 w):=by
 have cI:=Ih (Cv s hs sp w);go_enter Tryz.func174,Tryz.ntmps174
 go_wp2_with fail
 refine cI.out.mono ?_;rintro e w1 ⟨o,rfl,ho,aC⟩;generalize hii:l3 o=ii;cases o with
 | none=>
   obtain rfl:(-1:Int)=ii:=hii;have HC:Hid (Lz.dn sp s.data.toList=(s.data.toList,[],false)):=Ih (Lz.yo ho.out.symm);clear ho
   go_wp2_with fail
   go_ret3
   rw[HC.out];exact⟨s,⟨#[]⟩,rfl,Ih rfl,Ih rfl,aC⟩
 | some i=>
   obtain rfl:(i:Int)=ii:=hii;have HC:Hid (Lz.dn sp s.data.toList=(s.data.toList.take i,s.data.toList.drop (i+1),true)):=Ih (Lz.xC ho.out.symm);have sF:i<s.size:=by rw[<-aa];exact Lz.N3 ho.out.symm
   clear ho;have nP:¬((i:Int)<0):=by omega
   have Lj:(i:Int)<=(s.size:Int):=by omega
   have Zn:(0:Int)<=(i:Int)+1:=by omega
   have hi3:(i:Int)+1<=(s.size:Int):=by omega
   have hi4:((i:Int)+1).toNat=i+1:=by omega
   have hi5:(0:Int)<=(i:Int):=by omega
   have iW:IntKind.i64.wrap ((i:Int)+1)=(i:Int)+1:=IntWalk.i64_in _ (by omega)
   go_wp2_with fail
   go_quiet (fail)
   go_wp2_with fail
   go_ret3
   rw[HC.out];exact⟨_,_,rfl,Ih (dC _ _),Ih (aP _ _),below_drewN aC _⟩
def ik:Value->Nat
 | .string s=>s.size
 | _=>0
def qW:Value->Nat
 | .bool true=>1
 | _=>0
theorem FL (s:List UInt8) (l:List (List UInt8)):(Lz.bJ s l).length<=l.length:=by
 unfold Lz.bJ;split
 ·exact Nat.le_refl _
 ·simp
def Tc (B M:Nat) (goal:Lz.af) (L:Nat) (w:World) (t m:Value) (wr:World):Prop:=
 ∃(tb:ByteArray) (b:Bool) (u:Lz.af),t=.string tb/\m=.bool b/\Below B w wr/\ee B M wr u/\Hid (goal=if b then Lz.onP u tb.data.toList else u)/\(b=true->u.path.length+tb.size<=L)
theorem JM {B M:Nat} {w:World} {sch usr pas:ByteArray} {hh:Bool} {hst:ByteArray} {prt:Int} {opq:Bool} {pv:Value} {xs:List ByteArray} {hq hf:Bool} {qry frg:ByteArray} {l:List (List UInt8)}
 (h:mw B M w ⟨sch,usr,pas,hh,hst,prt,opq,pv,xs,hq,hf,qry,frg⟩ (Lz.ae sch.data.toList) (cm (Lz.ae sch.data.toList))) (hl:xs.map (fun x:ByteArray=>x.data.toList)=l):
 ee B M w ⟨sch.data.toList,usr.data.toList,pas.data.toList,hh,hst.data.toList,prt,opq,l,hq,hf,qry.data.toList,frg.data.toList⟩:=⟨_,h,Ih (by rw[<-hl];rfl)⟩
theorem ru {B M:Nat} {w:World} {sch usr pas:ByteArray} {hh:Bool} {hst:ByteArray} {prt:Int} {opq:Bool} {pv:Value} {xs:List ByteArray} {hq hf:Bool} {qry frg p:ByteArray} {u:Lz.af}
  (h:mw B M w ⟨sch,usr,pas,hh,hst,prt,opq,pv,xs++[p],hq,hf,qry,frg⟩ (Lz.ae sch.data.toList) (cm (Lz.ae sch.data.toList)))
  (hu:u=⟨sch.data.toList,usr.data.toList,pas.data.toList,hh,hst.data.toList,prt,opq,xs.map (fun x:ByteArray=>x.data.toList),hq,hf,qry.data.toList,frg.data.toList⟩):
  ee B M w {u with path:=u.path++[p.data.toList]}:=by
 subst hu;exact JM h (by simp)
theorem oA (B M:Nat) (t:ByteArray) (u:Lz.af) (w:World) (hE:de w) (hm:ee B M w u) (hB:B<=w.heap.size) (rA:11<=B) (hL:u.path.length+t.size<=100000000):
  Calls Tryz.prog 135 #[.pointer (some ⟨M,0,none⟩),.string t] w (RMk B M (Lz.onP u t.data.toList) w):=by
 obtain⟨goal,eQ⟩:∃goal,goal=Lz.onP u t.data.toList:=⟨_,rfl⟩;rw[<-eQ];have nl:=Ih eQ;clear eQ;have HE:=Ih hE;have Hm:=Ih hm;clear hE hm;go_enter Tryz.func135,Tryz.ntmps135
 go_wp2_with fail
 go_loopw [1,4] (fun tv mv wr=>Tc B M goal 100000000 w tv mv wr) (fun tv mv _=>if qW mv=1 then ik tv+1 else 0)
 case atStart=>exact⟨t,true,u,rfl,rfl,Below.refl _ _,Hm.out,Ih nl.out,fun _=>hL⟩
 case round=>
  obtain⟨tb,b,u',rfl,rfl,bi,hmr,hG,hLr⟩:=hrel;have hEr:=HE.out.at bi rA;have hBr:B<=wr.heap.size:=Nat.le_trans hB bi.size;cases b with
  | false=>
    have HF:Hid (goal=u'):=Ih hG.out
    go_wp2_with fail
    go_end0
    exact⟨rfl,bi,by rw[HF.out];exact hmr⟩
  | true=>
    have hLr:=hLr rfl;have d5:∃sp,sp=Lz.ae u'.scheme:=⟨_,rfl⟩;obtain⟨sp,d5⟩:=d5
    have pc:wr.cell? ⟨M,13,none⟩=some (.string (cm sp)):=by
     obtain⟨sch,usr,pas,hh,hst,prt,opq,a,c,xs,hq,hf,qry,frg,hk,rfl,_,_⟩:=hmr.form;rw[d5];exact rowAt hk.row 13 _ rfl
    have cC:=Ih (tM M sp tb (by omega) wr pc);have cw:=Lz.Nr u' tb.data.toList;rw[<-d5]at cw;generalize hcut:Lz.dn sp tb.data.toList=cc at cC cw;obtain⟨pl,rl,fg⟩:=cc
    have KO:Hid (goal=if fg then Lz.onP {u' with path:=Lz.iE u'.scheme u'.path pl true} rl else{u' with path:=Lz.iE u'.scheme u'.path pl false}):=by
     show _=_;rw[hG.out,if_pos rfl,cw]
    have bv:fg=true->pl.length+rl.length+1=tb.size:=by
     intro hm;have:=Lz.wD (sp:=sp) (s:=tb.data.toList) (by rw[hcut];exact hm);rw[hcut,aa]at this;exact this
    have ab8:pl.length<=tb.size:=by
     have:=Lz.nc sp tb.data.toList;rw[hcut,aa]at this;simp only at this;omega
    clear hG hcut cw pc;have HL:=Ih bv;clear bv
    go_wp2_with fail
    refine cC.out.mono ?_;rintro e w1 ⟨pb,rb,rfl,vY,hrb,aC⟩;have lV:pb.size<=100000000:=by rw[<-aa,vY.out];omega
    have cE:=Ih (eR 4 (by decide) pb (by omega) w1)
    go_wp2_with fail
    refine cE.out.mono ?_;rintro e w2 ⟨qb,rfl,KG,aU⟩
    have hqs:qb.size<=300000000:=by
     have:=Lz.dD (Lz.jU 4) pb.data.toList;rw[<-KG.out,aa,aa]at this;omega
    have kj:=ac aC aU;have cD:=Ih (Mj qb (by omega) w2 (hEr.below kj))
    go_wp2_with fail
    refine cD.out.mono ?_;rintro e w3 ⟨rfl,cq⟩;have rI:=ac kj cq;have oV:=hmr.below rI;have iO:Below B w w3:=bi.trans (rI.mono hBr);have Ij:B<=w3.heap.size:=Nat.le_trans hBr rI.size;have sY:Lz.ah (Lz.bc 4) pl=qb.data.toList:=by rw[KG.out,vY.out];rfl
    have Tq:rl=rb.data.toList:=hrb.out.symm;clear KG vY hrb aC aU cq kj rI cC cE cD hmr;generalize hd:Lz.dN qb.data.toList=d;have R9:Lz.dN (Lz.ah (Lz.bc 4) pl)=d:=by rw[sY];exact hd
    have nr:Hid (∀(wx:World) (ux:Lz.af),Below B w wx->ee B M wx ux->ux={u' with path:=Lz.iE u'.scheme u'.path pl fg}->Tc B M goal 100000000 w (.string rb) (.bool fg) wx):=by
     intro wx ux rB hmx lX;refine⟨rb,fg,ux,rfl,rfl,rB,hmx,Ih ?_,?_⟩
     ·rw[KO.out,lX,Tq];cases fg<;>rfl
     ·rw[lX];intro hmt;have h1:=Lz.Ka u'.scheme u'.path pl fg;have h2:rb.size=rl.length:=by rw[Tq,aa]
      show(Lz.iE u'.scheme u'.path pl fg).length+rb.size<=_;have:=HL.out hmt;omega
    have yH:Hid (fg=true->rb.size+1<tb.size+1):=by
     intro hm;have:=HL.out hm;have h2:rb.size=rl.length:=by rw[Tq,aa]
     omega
    rcases Lz.rU qb.data.toList with h0|h0|h0
    ·
     obtain rfl:d=0:=by rw[<-hd];exact h0
     clear hd h0;obtain⟨sch,usr,pas,hh,hst,prt,opq,a,c,xs,hq,hf,qry,frg,hk,lX,hc,aO⟩:=oV.form
     have vR:xs.length<=1000000000:=by
      have h1:=congrArg (fun z:Lz.af=>z.path.length) lX;simp only[List.length_map]at h1;rw[<-h1];omega
     have jn:u'.scheme=sch.data.toList:=by rw[lX]
     have Al:u'.path=xs.map (fun x:ByteArray=>x.data.toList):=by rw[lX]
     have c7:=rowAt hk.row 7 (.slice a xs.length c) rfl;have c0:=rowAt hk.row 0 (.string sch) rfl
     have hA:Hid (¬(u'.scheme=Lz.fileS/\u'.path=[]/\Lz.bu qb.data.toList=true)->({u' with path:=u'.path++[qb.data.toList]}:Lz.af)={u' with path:=Lz.iE u'.scheme u'.path pl fg}):=by
      intro hn;rw[Lz.mV _ _ _ _ R9,sY,if_neg hn]
     by_cases jm:sch.data.toList=Lz.fileS
     ·have g0:=aH (k:=[102,105,108,101]) jm;by_cases hx:xs=[]
      ·have hzl:((xs.length:Int)==0)=true:=by rw[hx];rfl
       have cR:=rx qb w3;cases Dx:Lz.bu qb.data.toList with
       | true=>
         have hz:qb.size=2:=oR Dx;have fs:(1:Int)<=(qb.size:Int):=by omega
         have fk:¬(9223372036854775807<(qb.extract 0 1).size+(⟨#[58]⟩:ByteArray).size):=by
          have:=aJ qb 0 1;have h1:(⟨#[58]⟩:ByteArray).size=1:=rfl;omega
         have hP:Hid ((qb.extract 0 1++⟨#[58]⟩).data.toList=qb.data.toList.take 1++[58]):=by
          show _=_;rw[ai,dC]
         have VU:Hid (({u' with path:=u'.path++[(qb.extract 0 1++⟨#[58]⟩).data.toList]}:Lz.af)={u' with path:=Lz.iE u'.scheme u'.path pl fg}):=by
          show _=_;rw[Lz.mV _ _ _ _ R9,sY,if_pos ⟨by rw[jn];exact jm,by rw[Al,hx];rfl,Dx⟩,hP.out]
         rw[Dx]at cR;have CR:=Ih cR;clear cR jm Dx hz hx
         go_wp2_with fail
         refine CR.out.mono ?_;rintro e w4 ⟨rfl,rfl⟩;have lU:=hk.own.below ((Below.refl _ w3).alloc (Nat.le_refl _) (.cells #[.string (qb.extract 0 1++⟨#[58]⟩)] 9))
         go_wp2_with (at_builtin;refine ba _ rfl (.tmp 64) (.tmp 66) rfl B _ xs rfl lU ⟨w3.heap.size,0,none⟩ 1 (qb.extract 0 1++⟨#[58]⟩) rfl (aY _ _ _ 0 _ rfl) vR (by simp;omega) ?_)
         intro g7 n7 c7' w5 row dt hg bN;obtain⟨dB,vH⟩:=nI hk Ij hg bN;have c75:=rowAt vH 7 (.slice a xs.length c) rfl;have f75:=bP vH 7;obtain⟨kW,OO⟩:=kt dB vH hk.le dt;have FS:=ru OO lX;have vX:=iO.trans kW
         go_wp2_with fail
         go_roundw
         case measure=>cases fg with
          | true=>have:=yH.out (by trivial);simp[qW,ik];omega
          | false=>simp[qW,ik]
         case rel=>exact nr.out _ _ vX FS (by exact VU.out)
       | false=>
         have VU:=Ih (hA.out (fun h=>by rw[Dx]at h;exact absurd h.2.2 (by simp)));rw[Dx]at cR;have CR:=Ih cR;clear cR jm Dx hx
         go_wp2_with fail
         refine CR.out.mono ?_;rintro e w4 ⟨rfl,rfl⟩;have lU:=hk.own.below ((Below.refl _ w3).alloc (Nat.le_refl _) (.cells #[.string qb] 9))
         go_wp2_with (at_builtin;refine ba _ rfl (.tmp 64) (.tmp 66) rfl B _ xs rfl lU ⟨w3.heap.size,0,none⟩ 1 qb rfl (aY _ _ _ 0 _ rfl) vR (by simp;omega) ?_)
         intro g7 n7 c7' w5 row dt hg bN;obtain⟨dB,vH⟩:=nI hk Ij hg bN;have c75:=rowAt vH 7 (.slice a xs.length c) rfl;have f75:=bP vH 7;obtain⟨kW,OO⟩:=kt dB vH hk.le dt;have FS:=ru OO lX;have vX:=iO.trans kW
         go_wp2_with fail
         go_roundw
         case measure=>cases fg with
          | true=>have:=yH.out (by trivial);simp[qW,ik];omega
          | false=>simp[qW,ik]
         case rel=>exact nr.out _ _ vX FS (by exact VU.out)
      ·have dG:xs≠[]:=hx
       have hzl:((xs.length:Int)==0)=false:=by
        have:0<xs.length:=List.length_pos_iff.2 dG;rw[beq_eq_false_iff_ne];omega
       have VU:=Ih (hA.out (fun h=>dG (by rw[Al]at h;simpa using h.2.1)));clear jm hx dG;have lU:=hk.own.below ((Below.refl _ w3).alloc (Nat.le_refl _) (.cells #[.string qb] 9))
       go_wp2_with (at_builtin;refine ba _ rfl (.tmp 64) (.tmp 66) rfl B _ xs rfl lU ⟨w3.heap.size,0,none⟩ 1 qb rfl (aY _ _ _ 0 _ rfl) vR (by simp;omega) ?_)
       intro g7 n7 c7' w5 row dt hg bN;obtain⟨dB,vH⟩:=nI hk Ij hg bN;have c75:=rowAt vH 7 (.slice a xs.length c) rfl;have f75:=bP vH 7;obtain⟨kW,OO⟩:=kt dB vH hk.le dt;have FS:=ru OO lX;have vX:=iO.trans kW
       go_wp2_with fail
       go_roundw
       case measure=>cases fg with
        | true=>have:=yH.out (by trivial);simp[qW,ik];omega
        | false=>simp[qW,ik]
       case rel=>exact nr.out _ _ vX FS (by exact VU.out)
     ·have g0:=aR (k:=[102,105,108,101]) jm;have VU:=Ih (hA.out (fun h=>jm (by rw[<-jn];exact h.1)));clear jm;have lU:=hk.own.below ((Below.refl _ w3).alloc (Nat.le_refl _) (.cells #[.string qb] 9))
      go_wp2_with (at_builtin;refine ba _ rfl (.tmp 64) (.tmp 66) rfl B _ xs rfl lU ⟨w3.heap.size,0,none⟩ 1 qb rfl (aY _ _ _ 0 _ rfl) vR (by simp;omega) ?_)
      intro g7 n7 c7' w5 row dt hg bN;obtain⟨dB,vH⟩:=nI hk Ij hg bN;have c75:=rowAt vH 7 (.slice a xs.length c) rfl;have f75:=bP vH 7;obtain⟨kW,OO⟩:=kt dB vH hk.le dt;have FS:=ru OO lX;have vX:=iO.trans kW
      go_wp2_with fail
      go_roundw
      case measure=>cases fg with
       | true=>have:=yH.out (by trivial);simp[qW,ik];omega
       | false=>simp[qW,ik]
      case rel=>exact nr.out _ _ vX FS (by exact VU.out)
    ·
     obtain rfl:d=1:=by rw[<-hd];exact h0
     clear hd h0;cases fg with
     | true=>
       go_wp2_with fail
       go_roundw
       case measure=>have:=yH.out (by trivial);simp[qW,ik];omega
       case rel=>exact nr.out _ _ iO oV (by rw[Lz.mg _ _ _ _ R9];rfl)
     | false=>
       obtain⟨sch,usr,pas,hh,hst,prt,opq,a,c,xs,hq,hf,qry,frg,hk,lX,hc,aO⟩:=oV.form
       have vR:xs.length<=1000000000:=by
        have h1:=congrArg (fun z:Lz.af=>z.path.length) lX;simp only[List.length_map]at h1;rw[<-h1];omega
       have c7:=rowAt hk.row 7 (.slice a xs.length c) rfl;have lU:=hk.own.below ((Below.refl _ w3).alloc (Nat.le_refl _) (.cells #[.string ⟨#[]⟩] 9))
       go_wp2_with (at_builtin;refine ba _ rfl (.tmp 31) (.tmp 32) rfl B _ xs rfl lU ⟨w3.heap.size,0,none⟩ 1 ⟨#[]⟩ rfl (aY _ _ _ 0 _ rfl) vR (by simp;omega) ?_)
       intro g7 n7 c7' w5 row dt hg bN;obtain⟨dB,vH⟩:=nI hk Ij hg bN;have c75:=rowAt vH 7 (.slice a xs.length c) rfl;have f75:=bP vH 7;obtain⟨kW,OO⟩:=kt dB vH hk.le dt;have FS:=ru OO lX;have vX:=iO.trans kW
       go_wp2_with fail
       go_roundw
       case measure=>simp[qW,ik]
       case rel=>exact nr.out _ _ vX FS (by rw[Lz.mg _ _ _ _ R9];rfl)
    ·
     obtain rfl:d=2:=by rw[<-hd];exact h0
     clear hd h0;have cS:=Ih (Bu B M u' w3 oV (by omega))
     go_wp2_with fail
     refine cS.out.mono ?_;rintro e w4 ⟨rfl,ex,FQ⟩;have So:=iO.trans ex;have hB4:B<=w4.heap.size:=Nat.le_trans Ij ex.size;cases fg with
     | true=>
       go_wp2_with fail
       go_roundw
       case measure=>have:=yH.out (by trivial);simp[qW,ik];omega
       case rel=>exact nr.out _ _ So FQ (by rw[Lz.mC _ _ _ _ R9];rfl)
     | false=>
       obtain⟨sch,usr,pas,hh,hst,prt,opq,a,c,xs,hq,hf,qry,frg,hk,lX,hc,aO⟩:=FQ.form
       have vR:xs.length<=1000000000:=by
        have h1:=congrArg (fun z:Lz.af=>z.path.length) lX;simp only[List.length_map]at h1;rw[<-h1];have h2:(Lz.bJ u'.scheme u'.path).length<=u'.path.length:=FL _ _;omega
       have c7:=rowAt hk.row 7 (.slice a xs.length c) rfl;have lU:=hk.own.below ((Below.refl _ w4).alloc (Nat.le_refl _) (.cells #[.string ⟨#[]⟩] 9))
       go_wp2_with (at_builtin;refine ba _ rfl (.tmp 31) (.tmp 32) rfl B _ xs rfl lU ⟨w4.heap.size,0,none⟩ 1 ⟨#[]⟩ rfl (aY _ _ _ 0 _ rfl) vR (by simp;omega) ?_)
       intro g7 n7 c7' w5 row dt hg bN;obtain⟨dB,vH⟩:=nI hk hB4 hg bN;have c75:=rowAt vH 7 (.slice a xs.length c) rfl;have f75:=bP vH 7;obtain⟨kW,OO⟩:=kt dB vH hk.le dt;have FS:=ru OO lX;have vX:=So.trans kW
       go_wp2_with fail
       go_roundw
       case measure=>simp[qW,ik]
       case rel=>exact nr.out _ _ vX FS (by rw[Lz.mC _ _ _ _ R9];rfl)
theorem sj (B M:Nat) (u:Lz.af) (s:ByteArray) (hs:s.size<=900000) (w:World) (hE:de w) (hm:ee B M w u) (hB:B<=w.heap.size) (rA:11<=B) (hL:u.path.length<=50000000):
  Calls Tryz.prog 133 #[.pointer (some ⟨M,0,none⟩),.string s] w (E8 B M (Lz.df u s.data.toList) w):=by
 obtain⟨sp,d5⟩:∃sp,sp=Lz.ae u.scheme:=⟨_,rfl⟩
 have pc:w.cell? ⟨M,13,none⟩=some (.string (cm sp)):=by
  obtain⟨sch,usr,pas,hh,hst,prt,opq,a,c,xs,hq,hf,qry,frg,hk,rfl,_,_⟩:=hm.form;rw[d5];exact rowAt hk.row 13 _ rfl
 have cC:=Ih (tM M sp s (by omega) w pc);have bv:=Lz.nc sp s.data.toList;obtain⟨goal,eQ⟩:∃goal,goal=Lz.df u s.data.toList:=⟨_,rfl⟩;rw[<-eQ]
 have hU:goal=(Lz.gB u (Lz.dn sp s.data.toList).1).bind fun v=>.ok (if(Lz.dn sp s.data.toList).2.2||Lz.ae v.scheme then Lz.onP v (Lz.dn sp s.data.toList).2.1 else v):=by
  rw[eQ,d5];rfl
 generalize Lz.dn sp s.data.toList=cc at cC hU bv;obtain⟨al,tl,fg⟩:=cc;simp only[aa]at bv;have HU:=Ih hU;have Hm:=Ih hm;have HE:=Ih hE;clear hU hm hE pc eQ;go_enter Tryz.func133,Tryz.ntmps133
 go_wp2_with fail
 refine cC.out.mono ?_;rintro e w1 ⟨ab,tb,rfl,TV,Lt,aC⟩;have has:ab.size<=s.size:=by rw[<-aa,TV.out];omega
 have Xx:tb.size<=s.size:=by rw[<-aa,Lt.out];omega
 have vG:=Hm.out.below aC;have DB:=HE.out.below aC;have KX:=aC.mono hB;have DL:B<=w1.heap.size:=Nat.le_trans hB aC.size;have cA:=Ih (Kf B M u ab (by omega) w1 DB vG DL rA);have Ox:goal=(Lz.gB u ab.data.toList).bind fun v=>.ok (if fg||Lz.ae v.scheme then Lz.onP v tb.data.toList else v):=by rw[HU.out,TV.out,Lt.out]
 generalize hr:Lz.gB u ab.data.toList=r at cA Ox;have F5:=Ih Ox;have hrp:∀v,r=.ok v->v.path.length<=50000000:=fun v hv=>by rw[(Lz.uY (hr.trans hv)).1];exact hL
 have Hrp:=Ih hrp;clear TV Lt hr hrp cC Ox HU
 go_wp2_with fail
 refine cA.out.mono ?_;rintro e w2 ⟨v,rfl,aU,bt⟩;have ga:=KX.trans aU;have DA:B<=w2.heap.size:=Nat.le_trans DL aU.size;have Ak:=DB.at aU rA;cases r with
 | er n=>
   obtain⟨p,rfl⟩:=bt;clear cA
   go_wp2_with fail
   go_ret;refine⟨_,rfl,ga,?_⟩;rw[F5.out];exact⟨p,rfl⟩
 | ok u2=>
   obtain⟨rfl,rF⟩:=bt;have DR:=Hrp.out u2 rfl;obtain⟨sch,usr,pas,hh,hst,prt,opq,a,c,xs,hq,hf,qry,frg,hk,lX,hc,aO⟩:=rF.form;have jn:u2.scheme=sch.data.toList:=by rw[lX]
   have c12:=rowAt hk.row 12 (.bool (Lz.ae sch.data.toList)) rfl;rw[<-jn]at c12;have KO:goal=Lz.UR.ok (if fg||Lz.ae u2.scheme then Lz.onP u2 tb.data.toList else u2):=F5.out;generalize Lz.ae u2.scheme=q at c12 KO;have kQ:=Ih KO;have cO:=Ih (oA B M tb u2 w2 Ak rF DA rA (by omega));have Hm2:=Ih rF;clear lX hk aO jn cA KO rF Ak DB vG;cases fg with
   | true=>
     go_wp2_with fail
     refine cO.out.mono ?_;rintro e w3 ⟨rfl,cq,oV⟩
     go_wp2_with fail
     go_ret;refine⟨_,rfl,ga.trans cq,?_⟩;rw[kQ.out];exact⟨rfl,oV⟩
   | false=>
     cases q with
     | true=>
       go_wp2_with fail
       refine cO.out.mono ?_;rintro e w3 ⟨rfl,cq,oV⟩
       go_wp2_with fail
       go_ret;refine⟨_,rfl,ga.trans cq,?_⟩;rw[kQ.out];exact⟨rfl,oV⟩
     | false=>
       go_wp2_with fail
       go_ret;refine⟨_,rfl,ga,?_⟩;rw[kQ.out];exact⟨rfl,Hm2.out⟩
def MkV.val (x:MkV):Value:=.agg #[.string x.sch,.string x.usr,.string x.pas,.bool x.hh,.string x.hst,.int .i64 x.prt,.bool x.opq,x.pv,.bool x.hq,.bool x.hf,.string x.qry,.string x.frg]
def bz (w:World) (v:Value) (u:Lz.af):Prop:=∃x:MkV,v=x.val/\dy w x.pv (x.xs.map (fun x:ByteArray=>x.data.toList))/\Hid (x.url=u)
theorem bz.form {w:World} {v:Value} {u:Lz.af} (h:bz w v u):∃(sch usr pas:ByteArray) (hh:Bool) (hst:ByteArray) (prt:Int) (opq:Bool) (a:Option Addr) (c:Nat) (xs:List ByteArray) (hq hf:Bool) (qry frg:ByteArray),
  v=.agg #[.string sch,.string usr,.string pas,.bool hh,.string hst,.int .i64 prt,.bool opq,.slice a xs.length c,.bool hq,.bool hf,.string qry,.string frg]/\
  u=⟨sch.data.toList,usr.data.toList,pas.data.toList,hh,hst.data.toList,prt,opq,xs.map (fun x:ByteArray=>x.data.toList),hq,hf,qry.data.toList,frg.data.toList⟩/\
  ∀(j:Nat) (x:ByteArray),xs[j]? =some x->∃G off,a=some ⟨G,off,none⟩/\G<w.heap.size/\w.cell? ⟨G,off+j,none⟩=some (.string x):=by
 obtain⟨⟨sch,usr,pas,hh,hst,prt,opq,pv,xs,hq,hf,qry,frg⟩,rfl,hp,hu⟩:=h;obtain⟨a,c,ys,iM,jl,aO⟩:=hp;have VC:pv=.slice a ys.length c:=iM;subst VC;refine⟨sch,usr,pas,hh,hst,prt,opq,a,c,ys,hq,hf,qry,frg,rfl,?_,aO⟩;rw[<-hu.out,jl];rfl
def zJ (B:Nat) (l:List (List UInt8)) (w:World) (e:Ending) (w':World):Prop:=
 ∃(a:Option Addr) (n c:Nat) (xs:List ByteArray),e=.returned (.slice a n c)/\xs.map (fun x:ByteArray=>x.data.toList)=l/\aX w' B (.slice a n c) xs/\Below w.heap.size w w'
theorem Qh {B M:Nat} {w w1:World} {u:Lz.af} {v:Value} {xs:List ByteArray} (hm:ee B M w1 u) (hb:Below B w w1) (aQ:aX w1 B v xs):
  Below B w (w1.setCell ⟨M,7,none⟩ v)/\ee B M (w1.setCell ⟨M,7,none⟩ v) {u with path:=xs.map (fun x:ByteArray=>x.data.toList)}:=by
 obtain⟨sch,usr,pas,hh,hst,prt,opq,a,c,ys,hq,hf,qry,frg,hk,rfl,hc,aO⟩:=hm.form;refine⟨hb.setCell (p:=⟨M,7,none⟩) hk.le _,⟨sch,usr,pas,hh,hst,prt,opq,v,xs,hq,hf,qry,frg⟩,⟨gF hk.row 7 v (by simp),aQ.setCell hk.row pF 7 v,hk.le⟩,Ih rfl⟩
end Go.Proofs.YtlcbhacofagedaaGreatDoor
namespace Lz
open Go
theorem Jo (sp:Bool) (l:Bs):l.dropWhile (aG sp)=l.drop (dM sp l):=by
 unfold dM
 induction l with
 | nil=>rfl
 | cons c r ih=>
   cases h:aG sp c with
   | true=>simp[h,ih]
   | false=>simp[h]
theorem QY (sp:Bool) (l:Bs):dM sp l<=l.length:=by
 unfold dM
 induction l with
 | nil=>simp
 | cons c r ih=>
   cases h:aG sp c with
   | true=>simp[h,ih]
   | false=>simp[h]
end Lz
namespace Go.Proofs.YtlcbhacofagedaaGreatDoor
open Go.RowKit
theorem Ev (sp:Bool):∀(j:Nat) b,(cm sp).data.toList[j]? =some b->b.toNat<128:=by
 cases sp
 ·exact ascii_of_all (by decide)
 ·exact ascii_of_all (by decide)
theorem Br (sp:Bool):(cm sp).size<4294967281:=by cases sp<;>decide
theorem rT (s:ByteArray) (sp:Bool) (w:World):Calls Tryz.prog 134 #[.string s,.string (cm sp)] w (gl (s.data.toList.drop (Lz.dM sp s.data.toList)) w):=by
 refine(Any.strings_TrimLeft_laid Tryz.lays161 (by kernel_rfl) s (cm sp) w (Br sp) (Ev sp)).mono ?_;rintro e w' ⟨h1,h2⟩;refine⟨_,h1,Ih ?_,h2⟩;show Lib.trimLeftS s.data.toList (cm sp).data.toList=_;unfold Lib.trimLeftS
 have:(cm sp).data.toList.contains=Lz.aG sp:=by
  rw[<-Lz.js sp];cases sp<;>rfl
 rw[<-Lz.Jo,this]
theorem ja (s:ByteArray) (k:Nat):(s.extract k s.size).data.toList=s.data.toList.drop k:=aP s k
theorem bd:(Tryz.prog.info? 26).map (·.size)=some 12:=by kernel_rfl
theorem jZ {B M:Nat} {w:World} {u:Lz.af} (hm:ee B M w u) (k:Nat) (hk:k<14):∃v,w.cell? ⟨M,k,none⟩=some v/\w.frozen? ⟨M,k,none⟩=false:=by
 obtain⟨x,hx,_⟩:=hm;refine⟨_,rowAt hx.row k _ (Array.getElem?_eq_getElem (by simpa using hk)),bP hx.row k⟩
theorem Ra {B M:Nat} {w w1:World} {u:Lz.af} (hm:ee B M w1 u) (hb:Below B w w1) (h:ByteArray):
  Below B w (w1.setCell ⟨M,4,none⟩ (.string h))/\ee B M (w1.setCell ⟨M,4,none⟩ (.string h)) {u with host:=h.data.toList}:=by
 obtain⟨sch,usr,pas,hh,hst,prt,opq,a,c,ys,hq,hf,qry,frg,hk,rfl,hc,aO⟩:=hm.form;exact⟨hb.setCell (p:=⟨M,4,none⟩) hk.le _,_,eW hk 4 (.string h) ⟨sch,usr,pas,hh,h,prt,opq,.slice a ys.length c,ys,hq,hf,qry,frg⟩ (Lz.ae sch.data.toList) (cm (Lz.ae sch.data.toList)) (by simp) (fun _ h=>h),Ih rfl⟩
theorem XM {B M:Nat} {w w1:World} {u:Lz.af} (hm:ee B M w1 u) (hb:Below B w w1) (q:Bool):
  Below B w (w1.setCell ⟨M,3,none⟩ (.bool q))/\ee B M (w1.setCell ⟨M,3,none⟩ (.bool q)) {u with hasHost:=q}:=by
 obtain⟨sch,usr,pas,hh,hst,prt,opq,a,c,ys,hq,hf,qry,frg,hk,rfl,hc,aO⟩:=hm.form;exact⟨hb.setCell (p:=⟨M,3,none⟩) hk.le _,_,eW hk 3 (.bool q) ⟨sch,usr,pas,q,hst,prt,opq,.slice a ys.length c,ys,hq,hf,qry,frg⟩ (Lz.ae sch.data.toList) (cm (Lz.ae sch.data.toList)) (by simp) (fun _ h=>h),Ih rfl⟩
theorem T7 {B M:Nat} {w:World} {u:Lz.af} (hm:ee B M w u):∃hst:ByteArray,w.cell? ⟨M,4,none⟩=some (.string hst)/\hst.data.toList=u.host:=by
 obtain⟨sch,usr,pas,hh,hst,prt,opq,a,c,ys,hq,hf,qry,frg,hk,rfl,hc,aO⟩:=hm.form;exact⟨hst,rowAt hk.row 4 _ rfl,rfl⟩
theorem Nu {B M:Nat} {w:World} {u:Lz.af} (hm:ee B M w u) {sp:Bool} (d5:sp=Lz.ae u.scheme):w.cell? ⟨M,12,none⟩=some (.bool sp)/\w.cell? ⟨M,13,none⟩=some (.string (cm sp)):=by
 obtain⟨sch,usr,pas,hh,hst,prt,opq,a,c,xs,hq,hf,qry,frg,hk,rfl,_,_⟩:=hm.form;rw[d5];exact⟨rowAt hk.row 12 _ rfl,rowAt hk.row 13 _ rfl⟩
theorem Cf (w:World) (B:Nat) (x:ByteArray):aX (w.alloc (.cells #[.string x] 9)) B (.slice (some ⟨w.heap.size,0,none⟩) 1 1) [x]:=
 .inr ⟨⟨w.heap.size,0,none⟩,rfl,rfl,fun j u hj=>aY w (.string x) 9 j u hj,fun _=>⟨#[.string x],(0,0),by show(w.heap.push _)[w.heap.size]? =_;simp⟩⟩
theorem Fr (u:Lz.af) (b:Option Lz.af) (r:List UInt8) (h:1<Lz.dM true r):Lz.da u b r=
  (if Lz.bu (Lz.dn true (r.drop 2)).1 then .ok (Lz.onP {u with hasHost:=true} (r.drop 2))
  else(if(Lz.dn true (r.drop 2)).1=[]then Lz.UR.ok {u with hasHost:=true} else Lz.bQ {u with hasHost:=true} (Lz.dn true (r.drop 2)).1).bind fun u=>.ok (Lz.onP (if u.host=Lz.eE then{u with host:=[]} else u) (Lz.dn true (r.drop 2)).2.1)):=by
 unfold Lz.da;simp only;rw[if_pos h]
theorem Fk (u:Lz.af) (b:Option Lz.af) (r:List UInt8) (h:Lz.dM true r=1):Lz.da u b r=
  .ok (Lz.onP (match b with
   | some x=>if x.scheme=Lz.fileS then(if Lz.lg (r.drop 1)=false/\Lz.fL x.path=true then{u with hasHost:=true,host:=x.host,path:=x.path.take 1} else{u with hasHost:=true,host:=x.host})else{u with hasHost:=true}
   | none=>{u with hasHost:=true}) (r.drop 1)):=by
 unfold Lz.da;simp only;rw[if_neg (by omega),if_pos h];cases b<;>rfl
theorem Cc (u:Lz.af) (b:Option Lz.af) (r:List UInt8) (h:Lz.dM true r=0):Lz.da u b r=match b with
  | some x=>if x.scheme=Lz.fileS then(if Lz.lg r then .ok (Lz.onP {u with hasHost:=true,host:=x.host} r)else .ok (Lz.uQ {u with hasHost:=true,host:=x.host} x r))else .ok (Lz.onP {u with hasHost:=true} r)
  | none=>.ok (Lz.onP {u with hasHost:=true} r):=by
 unfold Lz.da;simp only;rw[if_neg (by omega),if_neg (by omega)];cases b<;>rfl
theorem DT (B M:Nat) (u:Lz.af) (r:ByteArray) (hr:r.size<=900000) (w:World) (hE:de w) (hm:ee B M w u) (hB:B<=w.heap.size) (rA:11<=B) (Po:u.path.length<=40000000) (hs:u.scheme=Lz.fileS):
  Calls Tryz.prog 130 #[.pointer (some ⟨M,0,none⟩),.pointer none,.string r] w (E8 B M (Lz.da u none r.data.toList) w):=by
 obtain⟨goal,eQ⟩:∃goal,goal=Lz.da u none r.data.toList:=⟨_,rfl⟩;rw[<-eQ];have nl:=Ih eQ;obtain⟨v3,c3,f3⟩:=jZ hm 3 (by decide);obtain⟨aC,vG⟩:=XM hm (Below.refl B w) true;have DL:B<=(w.setCell ⟨M,3,none⟩ (.bool true)).heap.size:=Nat.le_trans hB aC.size;have DB:=hE.at aC rA;obtain⟨W1,yy⟩:∃W1,W1=w.setCell ⟨M,3,none⟩ (.bool true):=⟨_,rfl⟩;rw[<-yy]at aC vG DL DB;have bn:({u with hasHost:=true}:Lz.af).scheme=Lz.fileS:=hs;obtain⟨u1,o8⟩:∃u1,u1=({u with hasHost:=true}:Lz.af):=⟨_,rfl⟩;rw[<-o8]at vG bn;have Hu1:=Ih o8;obtain⟨SF,pc⟩:=Nu vG (sp:=true) (by rw[bn];rfl);obtain⟨n,hn⟩:∃n,n=Lz.dM true r.data.toList:=⟨_,rfl⟩;have cT:=Ih (rT r true W1);rw[<-hn]at cT;have Hn:=Ih hn;have Y2:n<=r.size:=by rw[hn,<-aa];exact Lz.QY _ _
 have TK:u1.path.length<=40000000:=by rw[o8];exact Po
 have hMl:M<W1.heap.size:=by obtain⟨x,hx,_⟩:=vG;exact aI hx.row
 have HW1:Hid (W1=w.setCell ⟨M,3,none⟩ (.bool true)):=Ih yy;have HE0:=Ih hE;clear eQ hm hE hn o8 hs Po yy;go_enter Tryz.func130,Tryz.ntmps130
 go_upto_region 2 with fail
 rw[<-HW1.out]
 go_wp2_with fail
 refine cT.out.mono ?_;rintro e w1 ⟨tb,rfl,Lt,aU⟩;have AG:tb.size=r.size-n:=by rw[<-aa,Lt.out,List.length_drop,aa]
 have W3:(r.size:Int)-(tb.size:Int)=(n:Int):=by omega
 have ab5:IntKind.i64.wrap (n:Int)=(n:Int):=IntWalk.i64_in _ (by omega);have rF:=vG.below aU;have Ak:=DB.below aU;have ga:Below B w w1:=aC.trans (aU.mono DL);have DA:B<=w1.heap.size:=Nat.le_trans DL aU.size;have g13:w1.cell? ⟨M,13,none⟩=some (.string (cm true)):=by rw[aU.cell (p:=⟨M,13,none⟩) hMl];exact pc
 clear Lt AG cT SF pc vG DB HW1 c3 f3 hMl;rcases Nat.lt_or_ge 1 n with oX|oX
 ·have Zc:(1:Int)<(n:Int):=by omega
  have RM:(2:Int)<=(r.size:Int):=by omega
  have sS:=aJ r 2 r.size;have hU:=Fr u none r.data.toList (by rw[<-Hn.out];exact oX);rw[<-nl.out,<-Hu1.out,<-ja]at hU;have cC:=tM M true (r.extract 2 r.size) (by omega) w1 g13;have qA:=Lz.nc true (r.extract 2 r.size).data.toList;generalize hct:Lz.dn true (r.extract 2 r.size).data.toList=cc at cC hU qA;obtain⟨hl,tl,fg⟩:=cc;simp only[aa]at qA;have CC:=Ih cC;have HU:=Ih hU;clear cC hU hct
  go_wp2_with fail
  refine CC.out.mono ?_;rintro e w2 ⟨hb,Ol,rfl,Tl,Lt,cq⟩;have hhs:hb.size<=r.size:=by rw[<-aa,Tl.out];omega
  have Xx:Ol.size<=r.size:=by rw[<-aa,Lt.out];omega
  have Ox:goal=(if Lz.bu hb.data.toList then .ok (Lz.onP u1 (r.extract 2 r.size).data.toList)
    else(if hb.data.toList=[]then Lz.UR.ok u1 else Lz.bQ u1 hb.data.toList).bind fun u=>.ok (Lz.onP (if u.host=Lz.eE then{u with host:=[]} else u) Ol.data.toList)):=by
   rw[HU.out,Tl.out,Lt.out]
  have cD:=rx hb w2;generalize Lz.bu hb.data.toList=dq at cD Ox;have CD:=Ih cD;have F5:=Ih Ox;have oV:=rF.below cq;have OF:=Ak.below cq;have l5:Below B w w2:=ga.trans (cq.mono DA);have Ij:B<=w2.heap.size:=Nat.le_trans DA cq.size;clear Ox cD CC HU Tl Lt rF Ak;cases dq with
  | true=>
    have HG:Hid (goal=.ok (Lz.onP u1 (r.extract 2 r.size).data.toList)):=by show _=_;rw[F5.out,if_pos rfl]
    have cO:=Ih (oA B M (r.extract 2 r.size) u1 w2 OF oV Ij rA (by omega))
    go_wp2_with fail
    refine(CD.out).mono ?_;rintro e w3 ⟨rfl,rfl⟩
    go_wp2_with fail
    refine cO.out.mono ?_;rintro e w3 ⟨rfl,ex,FQ⟩
    go_wp2_with fail
    go_ret;refine⟨_,rfl,l5.trans ex,?_⟩;rw[HG.out];exact⟨rfl,FQ⟩
  | false=>
    have TR:Hid (goal=(if hb.data.toList=[]then Lz.UR.ok u1 else Lz.bQ u1 hb.data.toList).bind fun u=>.ok (Lz.onP (if u.host=Lz.eE then{u with host:=[]} else u) Ol.data.toList)):=by show _=_;rw[F5.out,if_neg (by simp)]
    clear F5
    go_wp2_with fail
    refine(CD.out).mono ?_;rintro e w3 ⟨rfl,rfl⟩;obtain⟨ne,dG⟩:∃ne,ne= !decide (hb.data.toList=[]):=⟨_,rfl⟩;have Lg:=Ih dG;clear dG
    go_upto_region 12 with fail
    go_cut [66] (fun s66 wx=>s66=.bool ne/\w2=wx)
    case first=>
     by_cases he:hb.data.toList=[]
     ·have g0:=aH he;have K7:hb.toList.isEmpty=true:=ak (by rw[<-aa,he];rfl);have hnf:ne=false:=by rw[Lg.out,decide_eq_true he];rfl
      subst hnf;clear he
      go_wp2_with fail
      go_meet;exact⟨rfl,rfl⟩
     ·have g0:=aR he;have K7:hb.toList.isEmpty=false:=aj (by rw[<-aa];exact List.length_pos_iff.2 he);have hnf:ne=true:=by rw[Lg.out,decide_eq_false he];rfl
      subst hnf;clear he
      go_wp2_with fail
      go_meet;exact⟨rfl,rfl⟩
    case rest=>
     obtain⟨rfl,rfl⟩:=hcut
     go_upto_if 66 with fail
     go_cut [] (fun wx=>Below B w wx/\∃u2,ee B M wx u2/\u2.path.length<=40000000/\Hid (goal=.ok (Lz.onP (if u2.host=Lz.eE then{u2 with host:=[]} else u2) Ol.data.toList)))
     case first=>
      cases ne with
      | false=>
        have he:hb.data.toList=[]:=by have:=Lg.out;simpa using this
        have HG:Hid (goal=.ok (Lz.onP (if u1.host=Lz.eE then{u1 with host:=[]} else u1) Ol.data.toList)):=by show _=_;rw[TR.out,if_pos he];rfl
        clear he
        go_wp2_with fail
        go_meet;exact⟨l5,u1,oV,TK,HG⟩
      | true=>
        have he:¬hb.data.toList=[]:=by have:=Lg.out;simpa using this
        have HG:Hid (goal=(Lz.bQ u1 hb.data.toList).bind fun u=>.ok (Lz.onP (if u.host=Lz.eE then{u with host:=[]} else u) Ol.data.toList)):=by show _=_;rw[TR.out,if_neg he]
        have cH:=Ih (yb B M u1 hb (by omega) w2 OF oV Ij);clear he TR
        go_wp2_with fail
        refine cH.out.mono ?_;rintro e w4 ⟨v,rfl,ex,bt⟩;have Dp:=l5.trans ex;generalize Ix:Lz.bQ u1 hb.data.toList=rr at bt HG;cases rr with
        | er m=>
          obtain⟨pp,rfl⟩:=bt;clear Ix
          go_wp2_with fail
          go_ret;refine⟨_,rfl,Dp,?_⟩;rw[HG.out];exact⟨pp,rfl⟩
        | ok u2=>
          obtain⟨rfl,FQ⟩:=bt;have Av:u2.path.length<=40000000:=by rw[(Lz.oS Ix).1];exact TK
          have kQ:Hid (goal=.ok (Lz.onP (if u2.host=Lz.eE then{u2 with host:=[]} else u2) Ol.data.toList)):=Ih HG.out;clear Ix
          go_wp2_with fail
          go_meet;exact⟨Dp,u2,FQ,Av,kQ⟩
     case rest=>
      clear l5 oV OF Ij;obtain⟨l5,u2,oV,Av,HG⟩:=hcut;have Ij:B<=wc.heap.size:=Nat.le_trans hB l5.size;have OF:de wc:=HE0.out.at l5 rA;obtain⟨hst,c4,Sz⟩:=T7 oV;obtain⟨v4,c4',f4⟩:=jZ oV 4 (by decide);clear c4';by_cases KD:hst.data.toList=Lz.eE
      ·have g0:=aH (k:=[108,111,99,97,108,104,111,115,116]) KD;have kQ:Hid (goal=.ok (Lz.onP {u2 with host:=(⟨#[]⟩:ByteArray).data.toList} Ol.data.toList)):=by show _=_;rw[HG.out,if_pos (by rw[<-Sz];exact KD)]
       obtain⟨ex,FQ⟩:=Ra oV l5 ⟨#[]⟩;have aa7:Below B wc (wc.setCell ⟨M,4,none⟩ (.string ⟨#[]⟩)):=(Below.refl B wc).setCell (p:=⟨M,4,none⟩) (by obtain⟨x,hx,_⟩:=oV;exact hx.le) _;have cO:=Ih (oA B M Ol _ (wc.setCell ⟨M,4,none⟩ (.string ⟨#[]⟩)) (OF.at aa7 rA) FQ (Nat.le_trans hB ex.size) rA (by show u2.path.length+_<=_;omega));clear KD Sz
       go_wp2_with fail
       refine cO.out.mono ?_;rintro e w5 ⟨rfl,dB,AE⟩
       go_wp2_with fail
       go_ret;refine⟨_,rfl,ex.trans dB,?_⟩;rw[kQ.out];exact⟨rfl,AE⟩
      ·have g0:=aR (k:=[108,111,99,97,108,104,111,115,116]) KD;have kQ:Hid (goal=.ok (Lz.onP u2 Ol.data.toList)):=by show _=_;rw[HG.out,if_neg (by rw[<-Sz];exact KD)]
       have cO:=Ih (oA B M Ol _ wc OF oV Ij rA (by omega));clear KD Sz
       go_wp2_with fail
       refine cO.out.mono ?_;rintro e w5 ⟨rfl,dB,AE⟩
       go_wp2_with fail
       go_ret;refine⟨_,rfl,l5.trans dB,?_⟩;rw[kQ.out];exact⟨rfl,AE⟩
 ·have Zc:¬((1:Int)<(n:Int)):=by omega
  by_cases sR:n=1
  ·have xe:((n:Int)==1)=true:=by rw[sR];rfl
   have h1I:(1:Int)<=(r.size:Int):=by omega
   have fF:=aJ r 1 r.size;have hU:=Fk u none r.data.toList (by rw[<-Hn.out];exact sR);rw[<-nl.out,<-ja]at hU
   have HG:Hid (goal=.ok (Lz.onP u1 (r.extract 1 r.size).data.toList)):=by
    show _=_;rw[hU];congr 2;exact Hu1.out.symm
   have cO:=Ih (oA B M (r.extract 1 r.size) u1 w1 Ak rF DA rA (by omega));clear sR hU
   go_wp2_with fail
   refine cO.out.mono ?_;rintro e w5 ⟨rfl,dB,AE⟩
   go_wp2_with fail
   go_ret;refine⟨_,rfl,ga.trans dB,?_⟩;rw[HG.out];exact⟨rfl,AE⟩
  ·have xe:((n:Int)==1)=false:=by rw[beq_eq_false_iff_ne];omega
   have hU:=Cc u none r.data.toList (by rw[<-Hn.out];omega);rw[<-nl.out]at hU
   have HG:Hid (goal=.ok (Lz.onP u1 r.data.toList)):=by
    show _=_;rw[hU];rw[Hu1.out]
   have cO:=Ih (oA B M r u1 w1 Ak rF DA rA (by omega));clear sR hU
   go_wp2_with fail
   refine cO.out.mono ?_;rintro e w5 ⟨rfl,dB,AE⟩
   go_wp2_with fail
   go_ret;refine⟨_,rfl,ga.trans dB,?_⟩;rw[HG.out];exact⟨rfl,AE⟩
theorem gw (s t:ByteArray):(s.toList==t.toList)=decide (s.data.toList=t.data.toList):=by
 rw[Lib.toList_data,Lib.toList_data,Bool.eq_iff_iff];simp
theorem UA {B M:Nat} {w w1:World} {u:Lz.af} (hm:ee B M w1 u) (hb:Below B w w1) (q:Bool):
  Below B w (w1.setCell ⟨M,6,none⟩ (.bool q))/\ee B M (w1.setCell ⟨M,6,none⟩ (.bool q)) {u with opq:=q}:=by
 obtain⟨sch,usr,pas,hh,hst,prt,opq,a,c,ys,hq,hf,qry,frg,hk,rfl,hc,aO⟩:=hm.form;exact⟨hb.setCell (p:=⟨M,6,none⟩) hk.le _,_,eW hk 6 (.bool q) ⟨sch,usr,pas,hh,hst,prt,q,.slice a ys.length c,ys,hq,hf,qry,frg⟩ (Lz.ae sch.data.toList) (cm (Lz.ae sch.data.toList)) (by simp) (fun _ h=>h),Ih rfl⟩
def Uf (u:Lz.af) (a r:List UInt8):Option Lz.af->Lz.UR
 | some x=>if x.scheme=a/\Lib.hasPrefix r [47,47]=false then Lz.yY u x r else Lz.df u (r.drop (Lz.dM true r))
 | none=>Lz.df u (r.drop (Lz.dM true r))
def EI (u:Lz.af) (r:List UInt8):Lz.UR:=
 if Lib.hasPrefix r [47,47]then Lz.df u (r.drop 2)
 else if Lib.hasPrefix r [47]then .ok (Lz.onP u (r.drop 1))
 else .ok {u with opq:=true,path:=[Lz.ah [] r]}
def okU (u:Lz.af) (a r:List UInt8) (b:Option Lz.af):Lz.UR:=if a=Lz.fileS then Lz.da u b r else if Lz.ae a then Uf u a r b else EI u r
theorem Nj (u:Lz.af) (s:List UInt8) (b:Option Lz.af) {a r:List UInt8} (h:Lz.bp s=(a,r,true)):Lz.fN u s b=okU {u with scheme:=a} a r b:=by
 unfold Lz.fN okU EI;rw[h];cases b<;>rfl
theorem MA (u:Lz.af) (s:List UInt8) (b:Option Lz.af) (h:(Lz.bp s).2.2=false):Lz.fN u s b=match b with
  | none=>.er 82
  | some x=>if x.opq&&(!s.isEmpty||u.hasQuery|| !u.hasFragment)then .er 82
    else if x.opq then .ok (Lz.uQ {u with scheme:=x.scheme,opq:=true} x [])
    else if x.scheme=Lz.fileS then Lz.da {u with scheme:=x.scheme} b s
    else Lz.yY {u with scheme:=x.scheme} x s:=by
 unfold Lz.fN;simp only[h];cases b<;>rfl
theorem Cj {s:List UInt8} (h:(Lz.bp s).2.2=false):Lz.bp s=([],s,false):=by
 rw[uh]at h⊢;split
 ·rename_i h2;rw[if_pos h2]at h;cases h
 ·rfl
theorem p6 {s p:List UInt8} (h:Lib.hasPrefix s p=true):p.length<=s.length:=(List.isPrefixOf_iff_prefix.1 h).length_le
theorem JN (B M:Nat) (x:MkV) (u:Lz.af) (hx:x.url=u) (s:ByteArray) (hs:s.size<=800000) (w:World) (hE:de w) (hm:mw B M w x false ⟨#[]⟩) (hB:B<=w.heap.size) (rA:11<=B) (Po:u.path.length<=30000000):
  Calls Tryz.prog 82 #[.pointer (some ⟨M,0,none⟩),.string s,.pointer none] w (E8 B M (Lz.fN u s.data.toList none) w):=by
 obtain⟨goal,eQ⟩:∃goal,goal=Lz.fN u s.data.toList none:=⟨_,rfl⟩;rw[<-eQ];have cS:=zb s (by omega) w hE;have Wp:(Lz.bp s.data.toList).2.2=true->(Lz.bp s.data.toList).1.length+1+(Lz.bp s.data.toList).2.1.length=s.size:=fun h=>by rw[Lz.rY h,aa]
 cases l6:(Lz.bp s.data.toList).2.2 with
 | true=>
   obtain⟨al,jQ⟩:∃al,al=(Lz.bp s.data.toList).1:=⟨_,rfl⟩;obtain⟨rl,Tq⟩:∃rl,rl=(Lz.bp s.data.toList).2.1:=⟨_,rfl⟩;have hU:=Nj u s.data.toList none (a:=al) (r:=rl) (by rw[jQ,Tq,<-l6]);rw[<-eQ]at hU;have bv:=Wp l6;rw[<-jQ,<-Tq,l6]at cS;rw[<-jQ,<-Tq]at bv;have CS:=Ih cS;have HU:=Ih hU;have HE:=Ih hE;have HM:=Ih hm;clear eQ cS Wp l6 jQ Tq hU hE hm;go_enter Tryz.func82,Tryz.ntmps82
   go_wp2_with fail
   refine CS.out.mono ?_;rintro e w1 ⟨a,r,rfl,ha,hr,aC⟩;have har:a.size+1+r.size=s.size:=by rw[<-aa a,<-aa r,ha.out,hr.out];exact bv
   have F5:Hid (goal=okU {u with scheme:=a.data.toList} a.data.toList r.data.toList none):=by
    show _=_;rw[HU.out,ha.out,hr.out]
   have cA:=Ih (Vv B M x false ⟨#[]⟩ a w1 (HM.out.below aC));clear ha hr bv HU CS
   go_wp2_with fail
   refine cA.out.mono ?_;rintro e w2 ⟨rfl,aU,rF⟩;have ga:Below B w w2:=(aC.mono hB).trans aU;have DA:B<=w2.heap.size:=Nat.le_trans hB ga.size;have Ak:=HE.out.at ga rA;obtain⟨u2,nK⟩:∃u2,u2=({u with scheme:=a.data.toList}:Lz.af):=⟨_,rfl⟩;have V7:ee B M w2 u2:=⟨{x with sch:=a},rF,Ih (by rw[nK,<-hx];rfl)⟩
   have TR:Hid (goal=okU u2 a.data.toList r.data.toList none):=by
    show _=_;rw[F5.out,nK]
   have eA:u2.scheme=a.data.toList:=by rw[nK]
   have Av:u2.path.length<=30000000:=by rw[nK];exact Po
   clear F5 rF hx nK HE HM cA;by_cases hf:a.data.toList=Lz.fileS
   ·have g0:=aH (k:=[102,105,108,101]) hf;have HG:Hid (goal=Lz.da u2 none r.data.toList):=by show _=_;rw[TR.out,okU,if_pos hf]
    have cF:=Ih (DT B M u2 r (by omega) w2 Ak V7 DA rA (by omega) (by rw[eA,hf]));clear TR hf
    go_wp2_with fail
    refine cF.out.mono ?_;rintro e w3 ⟨v,rfl,cq,bt⟩
    go_wp2_with fail
    go_ret;refine⟨_,rfl,ga.trans cq,?_⟩;rw[HG.out];exact bt
   ·have g0:=aR (k:=[102,105,108,101]) hf;obtain⟨sp,d5⟩:∃sp,sp=Lz.ae a.data.toList:=⟨_,rfl⟩;obtain⟨SF,pc⟩:=Nu V7 (sp:=sp) (by rw[eA];exact d5)
    have HU4:Hid (goal=if sp then Uf u2 a.data.toList r.data.toList none else EI u2 r.data.toList):=by
     show _=_;rw[TR.out,okU,if_neg hf,d5]
    clear TR hf d5;have cP2:=Ih (fun W=>iz r ⟨#[47,47]⟩ W);obtain⟨p2,Ww⟩:∃p2,p2=Lib.hasPrefix r.data.toList [47,47]:=⟨_,rfl⟩;rw[show Lib.hasPrefix r.data.toList (⟨#[47,47]⟩:ByteArray).data.toList=p2 from Ww.symm]at cP2;have Hp2:=Ih Ww;clear Ww;cases sp with
    | true=>
      have Sd:Hid (goal=Uf u2 a.data.toList r.data.toList none):=Ih HU4.out;have nL:(r.data.toList.drop (Lz.dM true r.data.toList)).length<=r.size:=by rw[List.length_drop,aa];omega
      have cT:=Ih (rT r true w2)
      have cH:Hid (∀(W:World) (t:ByteArray),Below w2.heap.size w2 W->Hid (t.data.toList=r.data.toList.drop (Lz.dM true r.data.toList))->Calls Tryz.prog 133 #[.pointer (some ⟨M,0,none⟩),.string t] W (E8 B M (Lz.df u2 (r.data.toList.drop (Lz.dM true r.data.toList))) W)):=Ih (fun W t hW ht=>by
       rw[<-ht.out];have Xx:t.size<=r.size:=by rw[<-aa t,ht.out];exact nL
       exact sj B M u2 t (by omega) W (Ak.below hW) (V7.below hW) (Nat.le_trans DA hW.size) rA (by omega))
      have HG:Hid (goal=Lz.df u2 (r.data.toList.drop (Lz.dM true r.data.toList))):=Ih Sd.out;clear HU4 Sd
      go_wp2_with fail
      refine cT.out.mono ?_;rintro e w4 ⟨tb,rfl,Lt,ex⟩;have Dp:=ga.trans (ex.mono DA);have cH2:=Ih (cH.out w4 tb ex Lt)
      go_wp2_with fail
      refine cH2.out.mono ?_;rintro e w3 ⟨v,rfl,cq,bt⟩
      go_wp2_with fail
      go_ret;refine⟨_,rfl,Dp.trans cq,?_⟩;rw[HG.out];exact bt
    | false=>
      have Sd:Hid (goal=EI u2 r.data.toList):=Ih HU4.out;clear HU4;cases p2 with
      | true=>
        have h2l:2<=r.size:=by rw[<-aa];exact p6 Hp2.out.symm
        have RM:(2:Int)<=(r.size:Int):=by omega
        have HG:Hid (goal=Lz.df u2 (r.extract 2 r.size).data.toList):=by show _=_;rw[Sd.out,EI,<-Hp2.out,if_pos rfl,ja]
        have cH:=Ih (sj B M u2 (r.extract 2 r.size) (by have:=aJ r 2 r.size;omega) w2 Ak V7 DA rA (by omega));clear Sd
        go_wp2_with fail
        refine(cP2.out _).mono ?_;rintro e w4 ⟨rfl,rfl⟩
        go_wp2_with fail
        refine cH.out.mono ?_;rintro e w3 ⟨v,rfl,cq,bt⟩
        go_wp2_with fail
        go_ret;refine⟨_,rfl,ga.trans cq,?_⟩;rw[HG.out];exact bt
      | false=>
        have cP1:=Ih (fun W=>iz r ⟨#[47]⟩ W);obtain⟨p1,WX⟩:∃p1,p1=Lib.hasPrefix r.data.toList [47]:=⟨_,rfl⟩;rw[show Lib.hasPrefix r.data.toList (⟨#[47]⟩:ByteArray).data.toList=p1 from WX.symm]at cP1;have Hp1:=Ih WX;clear WX;cases p1 with
        | true=>
          have h1l:1<=r.size:=by rw[<-aa];exact p6 Hp1.out.symm
          have h1I:(1:Int)<=(r.size:Int):=by omega
          have HG:Hid (goal=.ok (Lz.onP u2 (r.extract 1 r.size).data.toList)):=by show _=_;rw[Sd.out,EI,<-Hp2.out,if_neg (by simp),<-Hp1.out,if_pos rfl,ja]
          have cO:=Ih (oA B M (r.extract 1 r.size) u2 w2 Ak V7 DA rA (by have:=aJ r 1 r.size;omega));clear Sd
          go_wp2_with fail
          refine(cP2.out _).mono ?_;rintro e w4 ⟨rfl,rfl⟩
          go_wp2_with fail
          refine(cP1.out _).mono ?_;rintro e w4 ⟨rfl,rfl⟩
          go_wp2_with fail
          refine cO.out.mono ?_;rintro e w5 ⟨rfl,dB,AE⟩
          go_wp2_with fail
          go_ret;refine⟨_,rfl,ga.trans dB,?_⟩;rw[HG.out];exact⟨rfl,AE⟩
        | false=>
          have HG:Hid (goal=.ok {u2 with opq:=true,path:=[Lz.ah [] r.data.toList]}):=by show _=_;rw[Sd.out,EI,<-Hp2.out,if_neg (by simp),<-Hp1.out,if_neg (by simp)]
          obtain⟨v6,c6,f6⟩:=jZ V7 6 (by decide);obtain⟨cq,oV⟩:=UA V7 ga true;have Ij:B<=(w2.setCell ⟨M,6,none⟩ (.bool true)).heap.size:=Nat.le_trans hB cq.size;have cE:=Ih (eR 0 (by decide) r (by omega) (w2.setCell ⟨M,6,none⟩ (.bool true)));clear Sd
          go_wp2_with fail
          refine(cP2.out _).mono ?_;rintro e w4 ⟨rfl,rfl⟩
          go_wp2_with fail
          refine(cP1.out _).mono ?_;rintro e w4 ⟨rfl,rfl⟩
          go_wp2_with fail
          refine cE.out.mono ?_;rintro e w5 ⟨eb,rfl,heb,dB⟩;have AE:=oV.below dB;have SE:=cq.trans (dB.mono Ij);have hB5:B<=w5.heap.size:=Nat.le_trans hB SE.size;have Ls:Below w5.heap.size w5 (w5.alloc (.cells #[.string eb] 9)):=(Below.refl _ _).alloc (Nat.le_refl _) _;obtain⟨kW,FS⟩:=Qh (AE.below Ls) (SE.trans (Ls.mono hB5)) (Cf w5 B eb);obtain⟨v7,c7,f7⟩:=jZ (AE.below Ls) 7 (by decide)
          have HF:Hid (ee B M ((w5.alloc (.cells #[.string eb] 9)).setCell ⟨M,7,none⟩ (.slice (some ⟨w5.heap.size,0,none⟩) 1 1)) {u2 with opq:=true,path:=[Lz.ah [] r.data.toList]}):=by
           have h1:([eb].map (fun x:ByteArray=>x.data.toList))=[Lz.ah [] r.data.toList]:=by
            show[eb.data.toList]=_;rw[heb.out];rfl
           rw[h1]at FS;exact FS
          have Hb6:=Ih kW;clear FS kW AE heb oV
          go_wp2_with fail
          go_ret;refine⟨_,rfl,Hb6.out,?_⟩;rw[HG.out];exact⟨rfl,HF.out⟩
 | false=>
   have hU:=MA u s.data.toList none l6;rw[<-eQ]at hU;rw[Cj l6]at cS;have CS:=Ih cS;have HE:=Ih hE;clear eQ cS Wp l6 hE;have HG:Hid (goal=.er 82):=Ih hU;clear hU hm hx;go_enter Tryz.func82,Tryz.ntmps82
   go_wp2_with fail
   refine CS.out.mono ?_;rintro e w1 ⟨a,r,rfl,ha,hr,aC⟩;have KX:=aC.mono hB
   go_wp2_with fail
   go_ret;refine⟨_,rfl,KX,?_⟩;rw[HG.out];exact⟨_,rfl⟩
theorem bz.below {w w':World} {v:Value} {u:Lz.af} (h:bz w v u) (hb:Below w.heap.size w w'):bz w' v u:=by
 obtain⟨x,h1,h2,h3⟩:=h;exact⟨x,h1,h2.below hb,h3⟩
def dP (w:World) (v:Value) (u:Lz.af):Prop:=∃(B:Nat) (x:MkV),v=x.val/\aX w B x.pv x.xs/\Hid (x.url=u)
theorem dP.val {w:World} {v:Value} {u:Lz.af} (h:dP w v u):bz w v u:=by
 obtain⟨B,x,h1,h2,h3⟩:=h;obtain⟨a,c,e,_,hc⟩:=h2.form;exact⟨x,h1,⟨a,c,x.xs,e,rfl,hc⟩,h3⟩
theorem dP.below {w w':World} {v:Value} {u:Lz.af} (h:dP w v u) (hb:Below w.heap.size w w'):dP w' v u:=by
 obtain⟨B,x,h1,h2,h3⟩:=h;exact⟨B,x,h1,h2.below hb,h3⟩
def qq:Lz.af:={port:=0}
def Ug (r:Lz.UR) (w:World) (v1 v2:Value):Prop:=match r with
 | .ok u=>v2=.nilIface/\dP w v1 u
 | .er n=>Fo n v2/\dP w v1 qq
def YB (r:Lz.UR) (w:World) (e:Ending) (w':World):Prop:=∃v1 v2,e=.returned (.tuple #[v1,v2])/\Below w.heap.size w w'/\Ug r w' v1 v2
theorem lD (w:World) (g:Nat) (cs:Array Value):w.grownBy (w.setRow g cs) (some g):=
 ⟨rfl,rfl,rfl,by simp[World.setRow],fun k _ hk=>setRow_other _ _ _ _ (fun e=>hk (by rw[e]))⟩
theorem dP.setRow {w:World} {v:Value} {u:Lz.af} (h:dP w v u) {r:Nat} {cs:Array Value} {fr:Nat×Nat} (hr:w.heap[r]? =some (.cells cs 26 fr)) (W7:Array Value):dP (w.setRow r W7) v u:=by
 obtain⟨B,x,h1,h2,h3⟩:=h;exact⟨B,x,h1,h2.kept (lD w r W7) (fun k hk=>by injection hk with hk;subst hk;exact⟨_,_,_,hr,by decide⟩),h3⟩
theorem MC (s:List UInt8) (b:Option Lz.af):Lz.lT s b=(Lz.fN {query:=(Lib.cut (Lib.cut (Lz.cf s) [35]).1 [63]).2.1,hasQuery:=(Lib.cut (Lib.cut (Lz.cf s) [35]).1 [63]).2.2,fragment:=(Lib.cut (Lz.cf s) [35]).2.1,hasFragment:=(Lib.cut (Lz.cf s) [35]).2.2} (Lib.cut (Lib.cut (Lz.cf s) [35]).1 [63]).1 b).bind Lz.eZ:=rfl
theorem Bc {B M:Nat} {w w1:World} {u:Lz.af} (hm:ee B M w1 u) (hb:Below B w w1) (h:ByteArray):
  Below B w (w1.setCell ⟨M,10,none⟩ (.string h))/\ee B M (w1.setCell ⟨M,10,none⟩ (.string h)) {u with query:=h.data.toList}:=by
 obtain⟨sch,usr,pas,hh,hst,prt,opq,a,c,ys,hq,hf,qry,frg,hk,rfl,hc,aO⟩:=hm.form;exact⟨hb.setCell (p:=⟨M,10,none⟩) hk.le _,_,eW hk 10 (.string h) ⟨sch,usr,pas,hh,hst,prt,opq,.slice a ys.length c,ys,hq,hf,h,frg⟩ (Lz.ae sch.data.toList) (cm (Lz.ae sch.data.toList)) (by simp) (fun _ h=>h),Ih rfl⟩
theorem Ib {B M:Nat} {w w1:World} {u:Lz.af} (hm:ee B M w1 u) (hb:Below B w w1) (h:ByteArray):
  Below B w (w1.setCell ⟨M,11,none⟩ (.string h))/\ee B M (w1.setCell ⟨M,11,none⟩ (.string h)) {u with fragment:=h.data.toList}:=by
 obtain⟨sch,usr,pas,hh,hst,prt,opq,a,c,ys,hq,hf,qry,frg,hk,rfl,hc,aO⟩:=hm.form;exact⟨hb.setCell (p:=⟨M,11,none⟩) hk.le _,_,eW hk 11 (.string h) ⟨sch,usr,pas,hh,hst,prt,opq,.slice a ys.length c,ys,hq,hf,qry,h⟩ (Lz.ae sch.data.toList) (cm (Lz.ae sch.data.toList)) (by simp) (fun _ h=>h),Ih rfl⟩
theorem Mw {B M:Nat} {w:World} {u:Lz.af} (hm:ee B M w u):∃q f:ByteArray,w.cell? ⟨M,10,none⟩=some (.string q)/\q.data.toList=u.query/\w.cell? ⟨M,11,none⟩=some (.string f)/\f.data.toList=u.fragment:=by
 obtain⟨sch,usr,pas,hh,hst,prt,opq,a,c,ys,hq,hf,qry,frg,hk,rfl,hc,aO⟩:=hm.form;exact⟨qry,frg,rowAt hk.row 10 _ rfl,rfl,rowAt hk.row 11 _ rfl,rfl⟩
theorem IW (s:ByteArray) (hs:s.size<=800000) (w:World) (hE:jL w):
  Calls Tryz.prog 51 #[.string s,.pointer none] w (YB (Lz.lT s.data.toList none) w):=by
 obtain⟨goal,eQ⟩:∃goal,goal=Lz.lT s.data.toList none:=⟨_,rfl⟩;rw[<-eQ];rw[MC]at eQ;have qA:=Lz.qU s.data.toList;have OC:=fun v hv=>And.intro (Lz.D3 (s:=s.data.toList) (v:=v) hv).1 (Lz.D3 (s:=s.data.toList) (v:=v) hv).2.1;have bK:=Lz.lk 35 (Lz.cf s.data.toList);have bB:=Lz.lk 63 (Lib.cut (Lz.cf s.data.toList) [35]).1;obtain⟨W,hW⟩:∃W,W=(w.alloc (.cells #[.string ⟨#[]⟩,.string ⟨#[]⟩,.string ⟨#[]⟩,.bool false,.string ⟨#[]⟩,.int .i64 0,.bool false,.slice none 0 0,.bool false,.bool false,.string ⟨#[]⟩,.string ⟨#[]⟩] 26)).alloc (.cells #[.string ⟨#[]⟩,.string ⟨#[]⟩,.string ⟨#[]⟩,.bool false,.string ⟨#[]⟩,.int .i64 (-1),.bool false,.slice none 0 0,.bool false,.bool false,.string ⟨#[]⟩,.string ⟨#[]⟩,.bool false,.string ⟨#[]⟩] 82):=⟨_,rfl⟩;have bg:Below w.heap.size w W:=by rw[hW];exact((Below.refl _ w).alloc (Nat.le_refl _) _).alloc (by simp) _
 have hR:W.heap[w.heap.size]? =some (.cells #[.string ⟨#[]⟩,.string ⟨#[]⟩,.string ⟨#[]⟩,.bool false,.string ⟨#[]⟩,.int .i64 0,.bool false,.slice none 0 0,.bool false,.bool false,.string ⟨#[]⟩,.string ⟨#[]⟩] 26 (0,0)):=by
  rw[hW,Below.heap_alloc _ _ _ (by simp)];show(w.heap.push _)[w.heap.size]? =_;simp
 obtain⟨M,hM⟩:∃M,M=w.heap.size+1:=⟨_,rfl⟩
 have O0:W.heap[M]? =some (.cells #[.string ⟨#[]⟩,.string ⟨#[]⟩,.string ⟨#[]⟩,.bool false,.string ⟨#[]⟩,.int .i64 (-1),.bool false,.slice none 0 0,.bool false,.bool false,.string ⟨#[]⟩,.string ⟨#[]⟩,.bool false,.string ⟨#[]⟩] 82 (0,0)):=by
  rw[hW,hM];exact gr w _ _
 obtain⟨B,fG⟩:∃B,B=w.heap.size+1:=⟨_,rfl⟩;have wV:mw B M W ⟨⟨#[]⟩,⟨#[]⟩,⟨#[]⟩,false,⟨#[]⟩,-1,false,.slice none 0 0,[],false,false,⟨#[]⟩,⟨#[]⟩⟩ false ⟨#[]⟩:=⟨O0,aX.nil _ _,by omega⟩;have hwB:w.heap.size<B:=by omega
 have Xv:B<=W.heap.size:=by have:=aI O0;omega
 have lY:=hE.below bg;have rA:11<=B:=by have:=hE.h.size;omega
 have cC:=Ih (Jv s (by omega) W lY);have HW:=Ih hW;have HM:Hid (M=w.heap.size+1):=Ih hM;have HR:=Ih hR;have nl:=Ih eQ;have OD:=Ih OC;have HE:=Ih hE;have Hf1:=Ih bK;have SJ:=Ih bB;clear hW hR eQ OC hE O0 bK bB hM fG;go_enter Tryz.func51,Tryz.ntmps51
 go_wp2_with (rw[<-HW.out])
 rw[<-HM.out];refine cC.out.mono ?_;rintro e w1 ⟨u1,rfl,o8,aC⟩;have acz:u1.size<=s.size:=by rw[<-aa,o8.out];rw[aa]at qA;exact qA
 have cF:=Ih (C7 u1 ⟨#[35]⟩ (by omega) w1 (lY.below aC).h);rw[show Lib.cut u1.data.toList (⟨#[35]⟩:ByteArray).data.toList=Lib.cut (Lz.cf s.data.toList) [35] by rw[o8.out]]at cF;obtain⟨hf,hhf⟩:∃hf,hf=(Lib.cut (Lz.cf s.data.toList) [35]).2.2:=⟨_,rfl⟩;rw[<-hhf]at cF;have Hhf:=Ih hhf;clear hhf
 go_wp2_with fail
 refine cF.out.mono ?_;rintro e w2 ⟨a1,f1,rfl,Xg,bK,aU⟩;have kj:=ac aC aU;have rF:=(wV.below aC).below aU;have acO:a1.size<=s.size:=by rw[<-aa,Xg.out];have:=Hf1.out;rw[aa]at qA;omega
 have c11:=rowAt rF.row 11 (.string ⟨#[]⟩) rfl;have z11:=bP rF.row 11;have m3:=eW rF 11 (.string f1) ⟨⟨#[]⟩,⟨#[]⟩,⟨#[]⟩,false,⟨#[]⟩,-1,false,.slice none 0 0,[],false,false,⟨#[]⟩,f1⟩ false ⟨#[]⟩ (by simp) (fun _ h=>h);have c9:=rowAt m3.row 9 (.bool false) rfl;have z9:=bP m3.row 9;have m4:=eW m3 9 (.bool hf) ⟨⟨#[]⟩,⟨#[]⟩,⟨#[]⟩,false,⟨#[]⟩,-1,false,.slice none 0 0,[],false,hf,⟨#[]⟩,f1⟩ false ⟨#[]⟩ (by simp) (fun _ h=>h);have ow:=wV.le;have SM:Below B w2 ((w2.setCell ⟨M,11,none⟩ (.string f1)).setCell ⟨M,9,none⟩ (.bool hf)):=((Below.refl B w2).setCell (p:=⟨M,11,none⟩) ow _).setCell (p:=⟨M,9,none⟩) ow _;generalize hw4:(w2.setCell ⟨M,11,none⟩ (.string f1)).setCell ⟨M,9,none⟩ (.bool hf)=w4 at m4 SM;have Dp:Below B W w4:=(kj.mono Xv).trans SM;have Zy:de w4:=lY.h.at Dp rA;have cQ:=Ih (C7 a1 ⟨#[63]⟩ (by omega) w4 Zy);rw[show Lib.cut a1.data.toList (⟨#[63]⟩:ByteArray).data.toList=Lib.cut (Lib.cut (Lz.cf s.data.toList) [35]).1 [63] by rw[Xg.out]]at cQ;obtain⟨hq,hhq⟩:∃hq,hq=(Lib.cut (Lib.cut (Lz.cf s.data.toList) [35]).1 [63]).2.2:=⟨_,rfl⟩;rw[<-hhq]at cQ;have Hhq:=Ih hhq;have Hm4:=Ih m4;clear hhq m3 m4 rF wV cC cF
 go_wp2_with fail
 refine cQ.out.mono ?_;rintro e w5 ⟨a2,q2,rfl,vO,bV,dB⟩;have acF:a2.size<=s.size:=by rw[<-aa,vO.out];have:=SJ.out;have:=Hf1.out;rw[aa]at qA;omega
 have AE:=Hm4.out.below dB;have SE:Below B W w5:=Dp.trans (dB.mono (Nat.le_trans Xv Dp.size));have c10:=rowAt AE.row 10 (.string ⟨#[]⟩) rfl;have z10:=bP AE.row 10;have m6:=eW AE 10 (.string q2) ⟨⟨#[]⟩,⟨#[]⟩,⟨#[]⟩,false,⟨#[]⟩,-1,false,.slice none 0 0,[],false,hf,q2,f1⟩ false ⟨#[]⟩ (by simp) (fun _ h=>h);have c8:=rowAt m6.row 8 (.bool false) rfl;have z8:=bP m6.row 8;have m7:=eW m6 8 (.bool hq) ⟨⟨#[]⟩,⟨#[]⟩,⟨#[]⟩,false,⟨#[]⟩,-1,false,.slice none 0 0,[],hq,hf,q2,f1⟩ false ⟨#[]⟩ (by simp) (fun _ h=>h);have aad:Below B w5 ((w5.setCell ⟨M,10,none⟩ (.string q2)).setCell ⟨M,8,none⟩ (.bool hq)):=((Below.refl B w5).setCell (p:=⟨M,10,none⟩) ow _).setCell (p:=⟨M,8,none⟩) ow _;generalize hw7:(w5.setCell ⟨M,10,none⟩ (.string q2)).setCell ⟨M,8,none⟩ (.bool hq)=w7 at m7 aad;have Wn:Below B W w7:=SE.trans aad;have hB7:B<=w7.heap.size:=Nat.le_trans Xv Wn.size;have hE7:de w7:=lY.h.at Wn rA
 have HG:Hid (goal=(Lz.fN ⟨[],[],[],false,[],-1,false,[],hq,hf,q2.data.toList,f1.data.toList⟩ a2.data.toList none).bind Lz.eZ):=by
  show _=_;rw[nl.out,<-Hhq.out,<-Hhf.out,<-vO.out,<-bV.out,<-bK.out]
 have HP:Hid (∀v,Lz.fN ⟨[],[],[],false,[],-1,false,[],hq,hf,q2.data.toList,f1.data.toList⟩ a2.data.toList none=.ok v->v.query.length<=s.data.toList.length/\v.fragment.length<=s.data.toList.length):=by
  intro v hv;refine OD.out v ?_;rw[<-Hhq.out,<-Hhf.out,<-vO.out,<-bV.out,<-bK.out];exact hv
 have cM:=Ih (JN B M _ _ rfl a2 (by omega) w7 hE7 m7 hB7 rA (by show 0<=_;omega));clear m6 m7 AE nl OD Hhq Hhf vO bV bK Xg o8 cQ Hm4
 go_wp2_with fail
 refine cM.out.mono ?_;rintro e w8 ⟨v,rfl,TH,bt⟩;have Pd:Below B W w8:=Wn.trans TH;have hB8:B<=w8.heap.size:=Nat.le_trans Xv Pd.size;have ZY:Hid (SS B M (Lz.fN ⟨[],[],[],false,[],-1,false,[],hq,hf,q2.data.toList,f1.data.toList⟩ a2.data.toList none) w8 v):=Ih bt;clear bt cM;generalize Lz.fN ⟨[],[],[],false,[],-1,false,[],hq,hf,q2.data.toList,f1.data.toList⟩ a2.data.toList none=rm at ZY HG HP;have ZB:w8.heap[w.heap.size]? =_:=(Pd.block _ hwB).trans HR.out;cases rm with
 | er n=>
   obtain⟨pp,rfl⟩:=ZY.out;have kQ:Hid (goal=.er n):=Ih HG.out;clear HG HP ZY
   go_wp2_with (refine wpList_store_row rfl 26 (.tmp 4) (.tmp 47) rfl w.heap.size #[.string ⟨#[]⟩,.string ⟨#[]⟩,.string ⟨#[]⟩,.bool false,.string ⟨#[]⟩,.int .i64 0,.bool false,.slice none 0 0,.bool false,.bool false,.string ⟨#[]⟩,.string ⟨#[]⟩] rfl rfl 26 _ ZB bd rfl (by simp[Value.oneCell']) ?_)
   refine bodyPost_ret (bH (P:=Tryz.prog) (u:=5) rfl _ _ w.heap.size 26 _ (0,0) _ rfl (setRow_heap _ _ _ _ _ _ ZB) Tryz.underlying26 rfl bd) rfl ?_;refine⟨_,_,rfl,az (bg.trans (Pd.mono (by omega))) (Nat.le_refl _),?_⟩;rw[kQ.out];exact⟨⟨pp,rfl⟩,0,⟨⟨#[]⟩,⟨#[]⟩,⟨#[]⟩,false,⟨#[]⟩,0,false,.slice none 0 0,[],false,false,⟨#[]⟩,⟨#[]⟩⟩,rfl,aX.nil _ _,Ih rfl⟩
 | ok u2=>
   obtain⟨rfl,Tx⟩:=ZY.out;obtain⟨hql,XK⟩:=HP.out u2 rfl;rw[aa]at hql XK;obtain⟨qb,fb,e10,KG,e11,hfb⟩:=Mw Tx;have hqs:qb.size<=30000000:=by rw[<-aa,KG];omega
   have Wc:Hid (qb.data.toList=u2.query):=Ih KG;have kQ:Hid (goal=(Lz.UR.ok u2).bind Lz.eZ):=Ih HG.out;obtain⟨sp,d5⟩:∃sp,sp=Lz.ae u2.scheme:=⟨_,rfl⟩;obtain⟨SF,pc⟩:=Nu Tx d5;have Hsp:=Ih d5;clear HG HP ZY KG hfb e11 d5;cases sp with
   | true=>
     have DO:Hid (goal=.ok {u2 with query:=Lz.ah (Lz.bc 3) u2.query,fragment:=Lz.ah (Lz.bc 1) u2.fragment}):=by
      show _=_;rw[kQ.out];show Lz.eZ u2=_;unfold Lz.eZ;rw[<-Hsp.out];rfl
     have cE:=Ih (eR 3 (by decide) qb (by omega) w8)
     go_wp2_with fail
     refine cE.out.mono ?_;rintro e w9 ⟨qe,rfl,sY,Lf⟩;have WJ:=Tx.below Lf;have Ws:Below B W w9:=Pd.trans (Lf.mono hB8);obtain⟨v10,e10,z10⟩:=jZ WJ 10 (by decide);obtain⟨Ax,Aw⟩:=Bc WJ Ws qe;have Pc:Below B w9 (w9.setCell ⟨M,10,none⟩ (.string qe)):=(Below.refl B w9).setCell (p:=⟨M,10,none⟩) ow _;obtain⟨q3,f3,VH,_,e11,K4⟩:=Mw Aw;clear VH;generalize hw10:w9.setCell ⟨M,10,none⟩ (.string qe)=w10 at Ax Aw Pc e11;have abr:f3.size<=s.size:=by rw[<-aa f3,K4];exact XK
     have RW:=Ih (eR 1 (by decide) f3 (by omega) w10);have TI:Hid (f3.data.toList=u2.fragment):=Ih K4;clear K4
     go_wp2_with fail
     refine RW.out.mono ?_;rintro e To ⟨fe,rfl,ZU,F7⟩;have F9:=Aw.below F7;have Ow:Below B W To:=Ax.trans (F7.mono (Nat.le_trans Xv Ax.size));obtain⟨v11,d11,z11⟩:=jZ F9 11 (by decide);obtain⟨kj,Am⟩:=Ib F9 Ow fe;have R7:(To.setCell ⟨M,11,none⟩ (.string fe)).heap[w.heap.size]? =_:=(kj.block _ hwB).trans HR.out
     have nj:({({u2 with query:=qe.data.toList}:Lz.af)with fragment:=fe.data.toList}:Lz.af)={u2 with query:=Lz.ah (Lz.bc 3) u2.query,fragment:=Lz.ah (Lz.bc 1) u2.fragment}:=by
      rw[sY.out,ZU.out,Wc.out,TI.out];rfl
     rw[nj]at Am;generalize hw12:To.setCell ⟨M,11,none⟩ (.string fe)=w12 at kj Am R7;obtain⟨sch,usr,pas,hh,hst,prt,opq,a,c,xs,Lc,Do,qry,frg,hk,lX,hc,aO⟩:=Am.form;have k0:=rowAt hk.row 0 (.string sch) rfl;have k1:=rowAt hk.row 1 (.string usr) rfl;have k2:=rowAt hk.row 2 (.string pas) rfl;have k3:=rowAt hk.row 3 (.bool hh) rfl;have k4:=rowAt hk.row 4 (.string hst) rfl;have k5:=rowAt hk.row 5 (.int .i64 prt) rfl;have k6:=rowAt hk.row 6 (.bool opq) rfl;have k7:=rowAt hk.row 7 (.slice a xs.length c) rfl;have k8:=rowAt hk.row 8 (.bool Lc) rfl;have k9:=rowAt hk.row 9 (.bool Do) rfl;have k10:=rowAt hk.row 10 (.string qry) rfl;have k11:=rowAt hk.row 11 (.string frg) rfl;have aE:=hk.own.kept (lD w12 w.heap.size #[.string sch,.string usr,.string pas,.bool hh,.string hst,.int .i64 prt,.bool opq,.slice a xs.length c,.bool Lc,.bool Do,.string qry,.string frg]) (fun k hk=>by injection hk with hk;subst hk;exact⟨_,_,_,R7,by decide⟩)
     have WS:Hid (dP (w12.setRow w.heap.size #[.string sch,.string usr,.string pas,.bool hh,.string hst,.int .i64 prt,.bool opq,.slice a xs.length c,.bool Lc,.bool Do,.string qry,.string frg]) (.agg #[.string sch,.string usr,.string pas,.bool hh,.string hst,.int .i64 prt,.bool opq,.slice a xs.length c,.bool Lc,.bool Do,.string qry,.string frg]) {u2 with query:=Lz.ah (Lz.bc 3) u2.query,fragment:=Lz.ah (Lz.bc 1) u2.fragment}):=by
      exact⟨_,⟨sch,usr,pas,hh,hst,prt,opq,.slice a xs.length c,xs,Lc,Do,qry,frg⟩,rfl,aE,Ih lX.symm⟩
     clear aE;clear lX aO hk Am F9 Aw WJ nj
     go_wp2_with (refine wpList_store_row rfl 26 (.tmp 4) (.tmp 77) rfl w.heap.size #[.string sch,.string usr,.string pas,.bool hh,.string hst,.int .i64 prt,.bool opq,.slice a xs.length c,.bool Lc,.bool Do,.string qry,.string frg] rfl rfl 26 _ R7 bd rfl (by simp[Value.oneCell']) ?_)
     refine bodyPost_ret (bH (P:=Tryz.prog) (u:=5) rfl _ _ w.heap.size 26 _ (0,0) _ rfl (setRow_heap _ _ _ _ _ _ R7) Tryz.underlying26 rfl bd) rfl ?_;refine⟨_,_,rfl,az (bg.trans (kj.mono (by omega))) (Nat.le_refl _),?_⟩;rw[DO.out];exact⟨rfl,WS.out⟩
   | false=>
     have DO:Hid (goal=.ok {u2 with query:=Lz.ah (Lz.bc 2) u2.query,fragment:=Lz.ah (Lz.bc 1) u2.fragment}):=by
      show _=_;rw[kQ.out];show Lz.eZ u2=_;unfold Lz.eZ;rw[<-Hsp.out];rfl
     have cE:=Ih (eR 2 (by decide) qb (by omega) w8)
     go_wp2_with fail
     refine cE.out.mono ?_;rintro e w9 ⟨qe,rfl,sY,Lf⟩;have WJ:=Tx.below Lf;have Ws:Below B W w9:=Pd.trans (Lf.mono hB8);obtain⟨v10,e10,z10⟩:=jZ WJ 10 (by decide);obtain⟨Ax,Aw⟩:=Bc WJ Ws qe;have Pc:Below B w9 (w9.setCell ⟨M,10,none⟩ (.string qe)):=(Below.refl B w9).setCell (p:=⟨M,10,none⟩) ow _;obtain⟨q3,f3,VH,_,e11,K4⟩:=Mw Aw;clear VH;generalize hw10:w9.setCell ⟨M,10,none⟩ (.string qe)=w10 at Ax Aw Pc e11;have abr:f3.size<=s.size:=by rw[<-aa f3,K4];exact XK
     have RW:=Ih (eR 1 (by decide) f3 (by omega) w10);have TI:Hid (f3.data.toList=u2.fragment):=Ih K4;clear K4
     go_wp2_with fail
     refine RW.out.mono ?_;rintro e To ⟨fe,rfl,ZU,F7⟩;have F9:=Aw.below F7;have Ow:Below B W To:=Ax.trans (F7.mono (Nat.le_trans Xv Ax.size));obtain⟨v11,d11,z11⟩:=jZ F9 11 (by decide);obtain⟨kj,Am⟩:=Ib F9 Ow fe;have R7:(To.setCell ⟨M,11,none⟩ (.string fe)).heap[w.heap.size]? =_:=(kj.block _ hwB).trans HR.out
     have nj:({({u2 with query:=qe.data.toList}:Lz.af)with fragment:=fe.data.toList}:Lz.af)={u2 with query:=Lz.ah (Lz.bc 2) u2.query,fragment:=Lz.ah (Lz.bc 1) u2.fragment}:=by
      rw[sY.out,ZU.out,Wc.out,TI.out];rfl
     rw[nj]at Am;generalize hw12:To.setCell ⟨M,11,none⟩ (.string fe)=w12 at kj Am R7;obtain⟨sch,usr,pas,hh,hst,prt,opq,a,c,xs,Lc,Do,qry,frg,hk,lX,hc,aO⟩:=Am.form;have k0:=rowAt hk.row 0 (.string sch) rfl;have k1:=rowAt hk.row 1 (.string usr) rfl;have k2:=rowAt hk.row 2 (.string pas) rfl;have k3:=rowAt hk.row 3 (.bool hh) rfl;have k4:=rowAt hk.row 4 (.string hst) rfl;have k5:=rowAt hk.row 5 (.int .i64 prt) rfl;have k6:=rowAt hk.row 6 (.bool opq) rfl;have k7:=rowAt hk.row 7 (.slice a xs.length c) rfl;have k8:=rowAt hk.row 8 (.bool Lc) rfl;have k9:=rowAt hk.row 9 (.bool Do) rfl;have k10:=rowAt hk.row 10 (.string qry) rfl;have k11:=rowAt hk.row 11 (.string frg) rfl;have aE:=hk.own.kept (lD w12 w.heap.size #[.string sch,.string usr,.string pas,.bool hh,.string hst,.int .i64 prt,.bool opq,.slice a xs.length c,.bool Lc,.bool Do,.string qry,.string frg]) (fun k hk=>by injection hk with hk;subst hk;exact⟨_,_,_,R7,by decide⟩)
     have WS:Hid (dP (w12.setRow w.heap.size #[.string sch,.string usr,.string pas,.bool hh,.string hst,.int .i64 prt,.bool opq,.slice a xs.length c,.bool Lc,.bool Do,.string qry,.string frg]) (.agg #[.string sch,.string usr,.string pas,.bool hh,.string hst,.int .i64 prt,.bool opq,.slice a xs.length c,.bool Lc,.bool Do,.string qry,.string frg]) {u2 with query:=Lz.ah (Lz.bc 2) u2.query,fragment:=Lz.ah (Lz.bc 1) u2.fragment}):=by
      exact⟨_,⟨sch,usr,pas,hh,hst,prt,opq,.slice a xs.length c,xs,Lc,Do,qry,frg⟩,rfl,aE,Ih lX.symm⟩
     clear aE;clear lX aO hk Am F9 Aw WJ nj
     go_wp2_with (refine wpList_store_row rfl 26 (.tmp 4) (.tmp 77) rfl w.heap.size #[.string sch,.string usr,.string pas,.bool hh,.string hst,.int .i64 prt,.bool opq,.slice a xs.length c,.bool Lc,.bool Do,.string qry,.string frg] rfl rfl 26 _ R7 bd rfl (by simp[Value.oneCell']) ?_)
     refine bodyPost_ret (bH (P:=Tryz.prog) (u:=5) rfl _ _ w.heap.size 26 _ (0,0) _ rfl (setRow_heap _ _ _ _ _ _ R7) Tryz.underlying26 rfl bd) rfl ?_;refine⟨_,_,rfl,az (bg.trans (kj.mono (by omega))) (Nat.le_refl _),?_⟩;rw[DO.out];exact⟨rfl,WS.out⟩
end Go.Proofs.YtlcbhacofagedaaGreatDoor
