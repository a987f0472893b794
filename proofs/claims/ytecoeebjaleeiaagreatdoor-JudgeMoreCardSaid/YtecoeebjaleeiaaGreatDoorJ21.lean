/-
  Package urls: on.
-/
import Derived.Test.YtecoeebjaleeiaaGreatDoorJ20
import Derived.Test.YtecoeebjaleeiaaGreatDoorJ14
set_option maxHeartbeats 2000000
set_option maxRecDepth 1000000
namespace Lz
open Go
theorem tU (ch:Bs):∀l:Bs,Lib.indexAny l ch=match plQ ch.contains l with|some n=>(n:Int)|none=> -1
 | []=>rfl
 | c::r=>by
   have ih:=tU ch r;rw[Lib.indexAny,plQ,List.findIdx?_cons];cases hc:ch.contains c with
   | true=>simp
   | false=>
     simp only[Bool.false_eq_true,if_false];rw[ih];show _=_;cases hp:plQ ch.contains r with
     | none=>
       have:List.findIdx? ch.contains r=none:=hp
       simp[this]
     | some n=>
       have:List.findIdx? ch.contains r=some n:=hp;simp only[this,Option.map_some];rw[if_neg (by rw[beq_iff_eq];omega)]
       simp
end Lz
namespace Go.Proofs.YtecoeebjaleeiaaGreatDoor
open Go.RowKit
theorem rF (c:UInt8):∀l:List UInt8,Lib.indexByte l c=nS (Lz.plQ ([c]:List UInt8).contains l)
 | []=>rfl
 | b::l=>by
   have ih:=rF c l;rw[Lib.indexByte,Lz.plQ,List.findIdx?_cons];by_cases h:b=c
   ·subst h;simp[nS]
   ·have h1:([c]:List UInt8).contains b=false:=by simp[h]
    rw[h1,if_neg (by simpa using h),ih];show _=nS (if false=true then some 0 else Option.map (fun i=>i+1) (Lz.plQ ([c]:List UInt8).contains l));cases Lz.plQ ([c]:List UInt8).contains l with
    | none=>simp[nS]
    | some n=>
      have hb:((n:Int)== -1)=false:=by rw[beq_eq_false_iff_ne];omega
      show(if((n:Int)== -1)=true then(-1:Int)else(n:Int)+1)=_;rw[hb];simp[nS]
theorem ze (ch l:List UInt8):Lib.indexAny l ch=nS (Lz.plQ ch.contains l):=by
 rw[Lz.tU];cases Lz.plQ ch.contains l<;>rfl
theorem yN (s ch:ByteArray) (h8:s.size<=8) (h2:2<=ch.size) (ha:∀c∈ch.data.toList,c.toNat<128) (w:World):
  Calls Tryz.prog 134 #[.string s,.string ch] w fun e w'=>∃o:Option Nat,e=.returned (.int .i64 (nS o))/\Hid (o=Lz.plQ ch.data.toList.contains s.data.toList)/\Below w.heap.size w w':=by
 have he:=an (s:=ch) (by omega);have iD:((ch.size:Int)==1)=false:=beq_eq_false_iff_ne.2 (by omega);have cU:=fun W=>Tryz.strings_shouldUseASCIISet (s.size:Int) W;rw[decide_eq_false (show ¬(8:Int)<(s.size:Int) by omega)]at cU;have CU:=Ih fun W=>(cU W).mono fun _ _ (h:_/\_)=>(⟨h.1,h.2.symm⟩:_/\W=_);have Ha:=Ih ha;clear cU ha;go_enter Tryz.func134,Tryz.ntmps134
 go_wp2_with fail
 refine(CU.out _).mono ?_;rintro e w' ⟨rfl,rfl⟩
 go_wp2
 go_loopg [] s.size (fun gf wx=>∃pos:Nat,wx.heap[w.heap.size]? =some (.stringIter s pos)/\Below w.heap.size w wx/\s.size<=pos+gf/\Hid (Lz.plQ ch.data.toList.contains s.data.toList=(Lz.plQ ch.data.toList.contains (s.data.toList.drop pos)).map (·+pos)))
 case atStart=>exact⟨0,World.iter_heap w s 0,(Below.refl _ w).alloc (Nat.le_refl _) _,by omega,Ih (by rw[List.drop_zero];cases Lz.plQ ch.data.toList.contains s.data.toList<;>rfl)⟩
 case round=>
  obtain⟨pos,hit,aK,hfu,hS⟩:=hrel;by_cases kN:pos<s.size
  ·obtain⟨g',rfl⟩:∃g',gk=g'+1:=⟨gk-1,by omega⟩;have Fi:∀ty,(Instr.next (.pointer (some ⟨w.heap.size,0,none⟩)) true ty).run Tryz.prog wr=_:=fun ty=>Lib.run_next_any_at wr w.heap.size s pos ty hit kN;have hwd:=Lib.width_pos s pos;have jv:=Lz.xQ s pos
   have bZ:Hid ((Lz.plQ ch.data.toList.contains (s.data.toList.drop pos)).map (·+pos)=if(decide ((Utf8.decode s pos).1<128)&&ch.data.toList.contains (UInt8.ofNat (Utf8.decode s pos).1))=true then some pos else(Lz.plQ ch.data.toList.contains (s.data.toList.drop (pos+(Utf8.decode s pos).2))).map (·+(pos+(Utf8.decode s pos).2))):=by
    show _=_;rcases Nat.lt_or_ge (s[pos]'kN).toNat 128 with h1|h1
    ·rw[decode_ascii s pos kN h1]
     have hd:s.data.toList.drop pos=s[pos]::s.data.toList.drop (pos+1):=by
      rw[List.drop_eq_getElem_cons (show pos<s.data.toList.length from kN)];rfl
     rw[hd,Lz.plQ,List.findIdx?_cons,decide_eq_true h1];simp only[Bool.true_and,UInt8.ofNat_toNat];cases ch.data.toList.contains s[pos]with
     | true=>simp
     | false=>
       simp only[Bool.false_eq_true,if_false];show _=Option.map _ (Lz.plQ ch.data.toList.contains (s.data.toList.drop (pos+1)));show Option.map _ (Option.map _ (Lz.plQ ch.data.toList.contains (s.data.toList.drop (pos+1))))=_;cases Lz.plQ ch.data.toList.contains (s.data.toList.drop (pos+1))with
       | none=>rfl
       | some n=>simp;omega
    ·have hr:=Lz.vC s pos kN h1;rw[decide_eq_false (by omega),Bool.false_and,if_neg (by simp)];refine Lz.DQ _ _ _ _ ?_;intro j b h3 h4 hj;have nP:j<s.size:=by rw[<-aa];exact(List.getElem?_eq_some_iff.1 hj).1
     have h5:=Lz.Ef s pos kN h1 j h3 h4 nP;rw[aB nP]at hj;rw[Option.some.inj hj]at h5;rw[Bool.eq_false_iff];intro hm;have:=Ha.out b (List.contains_iff_mem.1 hm);omega
   generalize hR:(Utf8.decode s pos).1=R at Fi jv bZ;generalize hK:(Utf8.decode s pos).2=K at Fi hwd bZ;clear hR hK;have vo:=Lib.iterAt_heap wr w.heap.size s pos (pos+K) hit;have ft:=Lib.below_iterAt aK (k:=w.heap.size) (Nat.le_refl _) s (pos+K);have Fj:w.heap.size<(wr.iterAt w.heap.size s (pos+K)).heap.size:=(Array.getElem?_eq_some_iff.1 vo).1;generalize wr.iterAt w.heap.size s (pos+K)=W at Fi vo ft Fj;have CI:=Ih (pW ch Ha.out R jv W);have Xi:=Ih vo;clear jv vo hit
   go_wp2_with fail
   refine(CI.out).mono ?_;rintro e w2 ⟨i,rfl,hi,az⟩;have Xj:Hid (w2.heap[w.heap.size]? =some (.stringIter s (pos+K))):=by show _=_;rw[az.block _ Fj];exact Xi.out
   have jc:Below w.heap.size w w2:=ft.trans (az.mono ft.size);by_cases o9:0<=i
   ·have HD:Hid (some pos=Lz.plQ ch.data.toList.contains s.data.toList):=by
     show _=_;have h1:=hi.out;rw[decide_eq_true o9]at h1;rw[hS.out,bZ.out,if_pos h1.symm]
    go_wp2
    go_ret;exact⟨some pos,rfl,HD,jc⟩
   ·have HD:Hid (Lz.plQ ch.data.toList.contains s.data.toList=(Lz.plQ ch.data.toList.contains (s.data.toList.drop (pos+K))).map (·+(pos+K))):=by
     show _=_;have h1:=hi.out;rw[decide_eq_false o9]at h1;rw[hS.out,bZ.out,if_neg (by rw[<-h1];simp)]
    go_wp2
    go_roundg g'
    case measure=>omega
    case rel=>exact⟨pos+K,Xj.out,jc,by omega,HD⟩
  ·have Fi:∀ty,(Instr.next (.pointer (some ⟨w.heap.size,0,none⟩)) true ty).run Tryz.prog wr=_:=fun ty=>Lib.run_next_end_at wr w.heap.size s pos ty hit kN
   have HD:Hid (none=Lz.plQ ch.data.toList.contains s.data.toList):=by
    show _=_;rw[hS.out,List.drop_eq_nil_of_le (by rw[aa];omega)];rfl
   go_wp2
   go_ret;exact⟨none,rfl,HD,aK⟩
theorem BJ (s ch:ByteArray) (hch:ch.data.toList=[47]) (w:World):Calls Tryz.prog 134 #[.string s,.string ch] w fun e w'=>∃o:Option Nat,e=.returned (.int .i64 (nS o))/\Hid (o=Lz.plQ ([47]:List UInt8).contains s.data.toList)/\Below w.heap.size w w':=by
 have hz:ch.size=1:=by rw[<-aa,hch];rfl
 have hp:0<ch.size:=by omega
 have hpI:(0:Int)<(ch.size:Int):=by omega
 have he:=an (s:=ch) hp;have iD:((ch.size:Int)==1)=true:=by rw[hz];rfl
 have h0:ch[0]=47:=by
  have:=aB (s:=ch) (n:=0) hp;rw[hch]at this;simpa using this.symm
 have h0I:(ch[0].toNat:Int)=47:=by rw[h0];rfl
 have cI:=Tryz.strings_IndexRune_ascii s 47;have CI:=Ih (fun W=>(cI W (by omega) (by omega)).mono fun _ _ (h:_/\_)=>(⟨h.1,h.2.symm⟩:_/\W=_));have hV:Lib.indexByte s.data.toList (47:Int).toNat.toUInt8=nS (Lz.plQ ([47]:List UInt8).contains s.data.toList):=rF 47 _;rw[hV]at CI;clear hV cI hch h0 hz;go_enter Tryz.func134,Tryz.ntmps134
 go_wp2_with fail
 refine(CI.out _).mono ?_;rintro e w' ⟨rfl,rfl⟩
 go_wp2_with fail
 go_ret;exact⟨_,rfl,Ih rfl,Below.refl _ _⟩
theorem EK (s:ByteArray) (hs:s.size<=1073741824) (sp:Bool) (w:World):Calls Tryz.prog 134 #[.string s,.string (bp sp)] w fun e w'=>∃o:Option Nat,e=.returned (.int .i64 (nS o))/\Hid (o=Lz.plQ (Lz.bz sp) s.data.toList)/\Below w.heap.size w w':=by
 cases sp with
 | false=>
   have:=BJ s ⟨#[47]⟩ rfl w;rw[show([47]:List UInt8).contains=Lz.bz false from Lz.lf false]at this;exact this
 | true=>
   have hc:([47,92]:List UInt8).contains=Lz.bz true:=Lz.lf true;have ha:∀c∈(bp true).data.toList,c.toNat<128:=by decide
   by_cases h8:s.size<=8
   ·have:=yN s (bp true) h8 (by decide) ha w;rw[show(bp true).data.toList.contains=Lz.bz true from hc]at this;exact this
   ·refine(Tryz.strings_IndexAny_long (zero_of_info IR).1 s (bp true) w (by decide) (by omega) (by omega) (by decide) (fun j b hj=>ha b (List.mem_of_getElem? hj))).mono ?_;rintro e w' ⟨he,hw⟩;refine⟨_,by rw[he,ze],Ih (by rw[show(bp true).data.toList.contains=Lz.bz true from hc]),?_⟩;rw[hw];exact((Below.refl _ w).alloc (Nat.le_refl _) _).alloc (by simp) _
theorem wH (M:Nat) (sp:Bool) (s:ByteArray) (hs:s.size<=1073741824) (w:World) (sw:w.cell? ⟨M,13,none⟩=some (.string (bp sp))):
  Calls Tryz.prog 94 #[.pointer (some ⟨M,0,none⟩),.string s] w (rZ (Lz.dI sp s.data.toList).1 (Lz.dI sp s.data.toList).2.1 (Lz.dI sp s.data.toList).2.2 w):=by
 have cI:=Ih (EK s hs sp w);go_enter Tryz.func94,Tryz.ntmps94
 go_wp2_with fail
 refine cI.out.mono ?_;rintro e w1 ⟨o,rfl,ho,ar⟩;generalize hii:nS o=ii;cases o with
 | none=>
   obtain rfl:(-1:Int)=ii:=hii;have HC:Hid (Lz.dI sp s.data.toList=(s.data.toList,[],false)):=Ih (Lz.Ai ho.out.symm);clear ho
   go_wp2_with fail
   go_ret3
   rw[HC.out];exact⟨s,⟨#[]⟩,rfl,Ih rfl,Ih rfl,ar⟩
 | some i=>
   obtain rfl:(i:Int)=ii:=hii;have HC:Hid (Lz.dI sp s.data.toList=(s.data.toList.take i,s.data.toList.drop (i+1),true)):=Ih (Lz.Ag ho.out.symm);have IB:i<s.size:=by rw[<-aa];exact Lz.NO ho.out.symm
   clear ho;have o9:¬((i:Int)<0):=by omega
   have V6:(i:Int)<=(s.size:Int):=by omega
   have hi2:(0:Int)<=(i:Int)+1:=by omega
   have hi3:(i:Int)+1<=(s.size:Int):=by omega
   have hi4:((i:Int)+1).toNat=i+1:=by omega
   have hi5:(0:Int)<=(i:Int):=by omega
   have km:IntKind.i64.wrap ((i:Int)+1)=(i:Int)+1:=IntWalk.i64_in _ (by omega)
   go_wp2_with fail
   go_quiet (fail)
   go_wp2_with fail
   go_ret3
   rw[HC.out];exact⟨_,_,rfl,Ih (fN _ _),Ih (bR _ _),below_drewN ar _⟩
def js:Value->Nat
 | .string s=>s.size
 | _=>0
def sE:Value->Nat
 | .bool true=>1
 | _=>0
theorem xN (s:List UInt8) (l:List (List UInt8)):(Lz.bu s l).length<=l.length:=by
 unfold Lz.bu;split
 ·exact Nat.le_refl _
 ·simp
def Td (B M:Nat) (goal:Lz.ag) (L:Nat) (w:World) (t m:Value) (wr:World):Prop:=
 ∃(tb:ByteArray) (b:Bool) (u:Lz.ag),t=.string tb/\m=.bool b/\Below B w wr/\dS B M wr u/\Hid (goal=if b then Lz.onP u tb.data.toList else u)/\(b=true->u.path.length+tb.size<=L)
theorem KM {B M:Nat} {w:World} {sch usr pas:ByteArray} {hh:Bool} {hst:ByteArray} {prt:Int} {opq:Bool} {pv:Value} {xs:List ByteArray} {hq hf:Bool} {qry frg:ByteArray} {l:List (List UInt8)}
 (h:nT B M w ⟨sch,usr,pas,hh,hst,prt,opq,pv,xs,hq,hf,qry,frg⟩ (Lz.ai sch.data.toList) (bp (Lz.ai sch.data.toList))) (hl:xs.map (fun x:ByteArray=>x.data.toList)=l):
 dS B M w ⟨sch.data.toList,usr.data.toList,pas.data.toList,hh,hst.data.toList,prt,opq,l,hq,hf,qry.data.toList,frg.data.toList⟩:=⟨_,h,Ih (by rw[<-hl];rfl)⟩
theorem sU {B M:Nat} {w:World} {sch usr pas:ByteArray} {hh:Bool} {hst:ByteArray} {prt:Int} {opq:Bool} {pv:Value} {xs:List ByteArray} {hq hf:Bool} {qry frg p:ByteArray} {u:Lz.ag}
  (h:nT B M w ⟨sch,usr,pas,hh,hst,prt,opq,pv,xs++[p],hq,hf,qry,frg⟩ (Lz.ai sch.data.toList) (bp (Lz.ai sch.data.toList)))
  (hu:u=⟨sch.data.toList,usr.data.toList,pas.data.toList,hh,hst.data.toList,prt,opq,xs.map (fun x:ByteArray=>x.data.toList),hq,hf,qry.data.toList,frg.data.toList⟩):
  dS B M w {u with path:=u.path++[p.data.toList]}:=by
 subst hu;exact KM h (by simp)
theorem jY (B M:Nat) (t:ByteArray) (u:Lz.ag) (w:World) (hE:dQ w) (hm:dS B M w u) (hB:B<=w.heap.size) (kg:15<=B) (hL:u.path.length+t.size<=100000000):
  Calls Tryz.prog 62 #[.pointer (some ⟨M,0,none⟩),.string t] w (RMk B M (Lz.onP u t.data.toList) w):=by
 obtain⟨goal,dY⟩:∃goal,goal=Lz.onP u t.data.toList:=⟨_,rfl⟩;rw[<-dY];have lm:=Ih dY;clear dY;have HE:=Ih hE;have Hm:=Ih hm;clear hE hm;go_enter Tryz.func62,Tryz.ntmps62
 go_wp2_with fail
 go_loopw [1,4] (fun tv mv wr=>Td B M goal 100000000 w tv mv wr) (fun tv mv _=>if sE mv=1 then js tv+1 else 0)
 case atStart=>exact⟨t,true,u,rfl,rfl,Below.refl _ _,Hm.out,Ih lm.out,fun _=>hL⟩
 case round=>
  obtain⟨tb,b,u',rfl,rfl,aK,hmr,hG,hLr⟩:=hrel;have hEr:=HE.out.at aK kg;have hBr:B<=wr.heap.size:=Nat.le_trans hB aK.size;cases b with
  | false=>
    have HF:Hid (goal=u'):=Ih hG.out
    go_wp2_with fail
    go_end0
    exact⟨rfl,aK,by rw[HF.out];exact hmr⟩
  | true=>
    have hLr:=hLr rfl;have gT:∃sp,sp=Lz.ai u'.scheme:=⟨_,rfl⟩;obtain⟨sp,gT⟩:=gT
    have sw:wr.cell? ⟨M,13,none⟩=some (.string (bp sp)):=by
     obtain⟨sch,usr,pas,hh,hst,prt,opq,a,c,xs,hq,hf,qry,frg,hk,rfl,_,_⟩:=hmr.form;rw[gT];exact rowAt hk.row 13 _ rfl
    have cC:=Ih (wH M sp tb (by omega) wr sw);have bZ:=Lz.MF u' tb.data.toList;rw[<-gT]at bZ;generalize hcut:Lz.dI sp tb.data.toList=cc at cC bZ;obtain⟨pl,rl,gu⟩:=cc
    have LK:Hid (goal=if gu then Lz.onP {u' with path:=Lz.jJ u'.scheme u'.path pl true} rl else{u' with path:=Lz.jJ u'.scheme u'.path pl false}):=by
     show _=_;rw[hG.out,if_pos rfl,bZ]
    have ba:gu=true->pl.length+rl.length+1=tb.size:=by
     intro hm;have:=Lz.zc (sp:=sp) (s:=tb.data.toList) (by rw[hcut];exact hm);rw[hcut,aa]at this;exact this
    have acF:pl.length<=tb.size:=by
     have:=Lz.oz sp tb.data.toList;rw[hcut,aa]at this;simp only at this;omega
    clear hG hcut bZ sw;have HL:=Ih ba;clear ba
    go_wp2_with fail
    refine cC.out.mono ?_;rintro e w1 ⟨pb,rb,rfl,Cg,XV,ar⟩;have kN:pb.size<=100000000:=by rw[<-aa,Cg.out];omega
    have cE:=Ih (fB 4 (by decide) pb (by omega) w1)
    go_wp2_with fail
    refine cE.out.mono ?_;rintro e w2 ⟨qb,rfl,WS,az⟩
    have hqs:qb.size<=300000000:=by
     have:=Lz.iP (Lz.lC 4) pb.data.toList;rw[<-WS.out,aa,aa]at this;omega
    have fW:=ac ar az;have cD:=Ih (MV qb (by omega) w2 (hEr.below fW))
    go_wp2_with fail
    refine cD.out.mono ?_;rintro e w3 ⟨rfl,aO⟩;have zx:=ac fW aO;have lh:=hmr.below zx;have jc:Below B w w3:=aK.trans (zx.mono hBr);have sq:B<=w3.heap.size:=Nat.le_trans hBr zx.size;have Cc:Lz.aj (Lz.cm 4) pl=qb.data.toList:=by rw[WS.out,Cg.out];rfl
    have PV:rl=rb.data.toList:=XV.out.symm;clear WS Cg XV ar az aO fW zx cC cE cD hmr;generalize hd:Lz.eR qb.data.toList=d;have SN:Lz.eR (Lz.aj (Lz.cm 4) pl)=d:=by rw[Cc];exact hd
    have uQ:Hid (∀(wx:World) (ux:Lz.ag),Below B w wx->dS B M wx ux->ux={u' with path:=Lz.jJ u'.scheme u'.path pl gu}->Td B M goal 100000000 w (.string rb) (.bool gu) wx):=by
     intro wx ux lW hmx lq;refine⟨rb,gu,ux,rfl,rfl,lW,hmx,Ih ?_,?_⟩
     ·rw[LK.out,lq,PV];cases gu<;>rfl
     ·rw[lq];intro hmt;have h1:=Lz.Ku u'.scheme u'.path pl gu;have h2:rb.size=rl.length:=by rw[PV,aa]
      show(Lz.jJ u'.scheme u'.path pl gu).length+rb.size<=_;have:=HL.out hmt;omega
    have AQ:Hid (gu=true->rb.size+1<tb.size+1):=by
     intro hm;have:=HL.out hm;have h2:rb.size=rl.length:=by rw[PV,aa]
     omega
    rcases Lz.uu qb.data.toList with h0|h0|h0
    ·
     obtain rfl:d=0:=by rw[<-hd];exact h0
     clear hd h0;obtain⟨sch,usr,pas,hh,hst,prt,opq,a,c,xs,hq,hf,qry,frg,hk,lq,hc,aA⟩:=lh.form
     have o7:xs.length<=1000000000:=by
      have h1:=congrArg (fun z:Lz.ag=>z.path.length) lq;simp only[List.length_map]at h1;rw[<-h1];omega
     have uH:u'.scheme=sch.data.toList:=by rw[lq]
     have Qe:u'.path=xs.map (fun x:ByteArray=>x.data.toList):=by rw[lq]
     have c7:=rowAt hk.row 7 (.slice a xs.length c) rfl;have c0:=rowAt hk.row 0 (.string sch) rfl
     have hA:Hid (¬(u'.scheme=Lz.bM/\u'.path=[]/\Lz.bL qb.data.toList=true)->({u' with path:=u'.path++[qb.data.toList]}:Lz.ag)={u' with path:=Lz.jJ u'.scheme u'.path pl gu}):=by
      intro hn;rw[Lz.oa _ _ _ _ SN,Cc,if_neg hn]
     by_cases tL:sch.data.toList=Lz.bM
     ·have g0:=bg (k:=[102,105,108,101]) tL;by_cases hx:xs=[]
      ·have hzl:((xs.length:Int)==0)=true:=by rw[hx];rfl
       have cR:=pk qb w3;cases zu:Lz.bL qb.data.toList with
       | true=>
         have hz:qb.size=2:=wU zu;have ei:(1:Int)<=(qb.size:Int):=by omega
         have eM:¬(9223372036854775807<(qb.extract 0 1).size+(⟨#[58]⟩:ByteArray).size):=by
          have:=aP qb 0 1;have h1:(⟨#[58]⟩:ByteArray).size=1:=rfl;omega
         have hP:Hid ((qb.extract 0 1++⟨#[58]⟩).data.toList=qb.data.toList.take 1++[58]):=by
          show _=_;rw[be,fN]
         have Xs:Hid (({u' with path:=u'.path++[(qb.extract 0 1++⟨#[58]⟩).data.toList]}:Lz.ag)={u' with path:=Lz.jJ u'.scheme u'.path pl gu}):=by
          show _=_;rw[Lz.oa _ _ _ _ SN,Cc,if_pos ⟨by rw[uH];exact tL,by rw[Qe,hx];rfl,zu⟩,hP.out]
         rw[zu]at cR;have CR:=Ih cR;clear cR tL zu hz hx
         go_wp2_with fail
         refine CR.out.mono ?_;rintro e w4 ⟨rfl,rfl⟩;have AN:=hk.own.below ((Below.refl _ w3).alloc (Nat.le_refl _) (.cells #[.string (qb.extract 0 1++⟨#[58]⟩)] 9))
         go_wp2_with (at_builtin;refine dC _ rfl (.tmp 64) (.tmp 66) rfl B _ xs rfl AN ⟨w3.heap.size,0,none⟩ 1 (qb.extract 0 1++⟨#[58]⟩) rfl (bD _ _ _ 0 _ rfl) o7 (by simp;omega) ?_)
         intro g7 n7 c7' w5 row eL hg aZ;obtain⟨aI,yb⟩:=pr hk sq hg aZ;have c75:=rowAt yb 7 (.slice a xs.length c) rfl;have f75:=bE yb 7;obtain⟨fX,PE⟩:=mm aI yb hk.le eL;have Fb:=sU PE lq;have kJ:=jc.trans fX
         go_wp2_with fail
         go_roundw
         case measure=>cases gu with
          | true=>have:=AQ.out (by trivial);simp[sE,js];omega
          | false=>simp[sE,js]
         case rel=>exact uQ.out _ _ kJ Fb (by exact Xs.out)
       | false=>
         have Xs:=Ih (hA.out (fun h=>by rw[zu]at h;exact absurd h.2.2 (by simp)));rw[zu]at cR;have CR:=Ih cR;clear cR tL zu hx
         go_wp2_with fail
         refine CR.out.mono ?_;rintro e w4 ⟨rfl,rfl⟩;have AN:=hk.own.below ((Below.refl _ w3).alloc (Nat.le_refl _) (.cells #[.string qb] 9))
         go_wp2_with (at_builtin;refine dC _ rfl (.tmp 64) (.tmp 66) rfl B _ xs rfl AN ⟨w3.heap.size,0,none⟩ 1 qb rfl (bD _ _ _ 0 _ rfl) o7 (by simp;omega) ?_)
         intro g7 n7 c7' w5 row eL hg aZ;obtain⟨aI,yb⟩:=pr hk sq hg aZ;have c75:=rowAt yb 7 (.slice a xs.length c) rfl;have f75:=bE yb 7;obtain⟨fX,PE⟩:=mm aI yb hk.le eL;have Fb:=sU PE lq;have kJ:=jc.trans fX
         go_wp2_with fail
         go_roundw
         case measure=>cases gu with
          | true=>have:=AQ.out (by trivial);simp[sE,js];omega
          | false=>simp[sE,js]
         case rel=>exact uQ.out _ _ kJ Fb (by exact Xs.out)
      ·have ed:xs≠[]:=hx
       have hzl:((xs.length:Int)==0)=false:=by
        have:0<xs.length:=List.length_pos_iff.2 ed;rw[beq_eq_false_iff_ne];omega
       have Xs:=Ih (hA.out (fun h=>ed (by rw[Qe]at h;simpa using h.2.1)));clear tL hx ed;have AN:=hk.own.below ((Below.refl _ w3).alloc (Nat.le_refl _) (.cells #[.string qb] 9))
       go_wp2_with (at_builtin;refine dC _ rfl (.tmp 64) (.tmp 66) rfl B _ xs rfl AN ⟨w3.heap.size,0,none⟩ 1 qb rfl (bD _ _ _ 0 _ rfl) o7 (by simp;omega) ?_)
       intro g7 n7 c7' w5 row eL hg aZ;obtain⟨aI,yb⟩:=pr hk sq hg aZ;have c75:=rowAt yb 7 (.slice a xs.length c) rfl;have f75:=bE yb 7;obtain⟨fX,PE⟩:=mm aI yb hk.le eL;have Fb:=sU PE lq;have kJ:=jc.trans fX
       go_wp2_with fail
       go_roundw
       case measure=>cases gu with
        | true=>have:=AQ.out (by trivial);simp[sE,js];omega
        | false=>simp[sE,js]
       case rel=>exact uQ.out _ _ kJ Fb (by exact Xs.out)
     ·have g0:=bN (k:=[102,105,108,101]) tL;have Xs:=Ih (hA.out (fun h=>tL (by rw[<-uH];exact h.1)));clear tL;have AN:=hk.own.below ((Below.refl _ w3).alloc (Nat.le_refl _) (.cells #[.string qb] 9))
      go_wp2_with (at_builtin;refine dC _ rfl (.tmp 64) (.tmp 66) rfl B _ xs rfl AN ⟨w3.heap.size,0,none⟩ 1 qb rfl (bD _ _ _ 0 _ rfl) o7 (by simp;omega) ?_)
      intro g7 n7 c7' w5 row eL hg aZ;obtain⟨aI,yb⟩:=pr hk sq hg aZ;have c75:=rowAt yb 7 (.slice a xs.length c) rfl;have f75:=bE yb 7;obtain⟨fX,PE⟩:=mm aI yb hk.le eL;have Fb:=sU PE lq;have kJ:=jc.trans fX
      go_wp2_with fail
      go_roundw
      case measure=>cases gu with
       | true=>have:=AQ.out (by trivial);simp[sE,js];omega
       | false=>simp[sE,js]
      case rel=>exact uQ.out _ _ kJ Fb (by exact Xs.out)
    ·
     obtain rfl:d=1:=by rw[<-hd];exact h0
     clear hd h0;cases gu with
     | true=>
       go_wp2_with fail
       go_roundw
       case measure=>have:=AQ.out (by trivial);simp[sE,js];omega
       case rel=>exact uQ.out _ _ jc lh (by rw[Lz.oh _ _ _ _ SN];rfl)
     | false=>
       obtain⟨sch,usr,pas,hh,hst,prt,opq,a,c,xs,hq,hf,qry,frg,hk,lq,hc,aA⟩:=lh.form
       have o7:xs.length<=1000000000:=by
        have h1:=congrArg (fun z:Lz.ag=>z.path.length) lq;simp only[List.length_map]at h1;rw[<-h1];omega
       have c7:=rowAt hk.row 7 (.slice a xs.length c) rfl;have AN:=hk.own.below ((Below.refl _ w3).alloc (Nat.le_refl _) (.cells #[.string ⟨#[]⟩] 9))
       go_wp2_with (at_builtin;refine dC _ rfl (.tmp 31) (.tmp 32) rfl B _ xs rfl AN ⟨w3.heap.size,0,none⟩ 1 ⟨#[]⟩ rfl (bD _ _ _ 0 _ rfl) o7 (by simp;omega) ?_)
       intro g7 n7 c7' w5 row eL hg aZ;obtain⟨aI,yb⟩:=pr hk sq hg aZ;have c75:=rowAt yb 7 (.slice a xs.length c) rfl;have f75:=bE yb 7;obtain⟨fX,PE⟩:=mm aI yb hk.le eL;have Fb:=sU PE lq;have kJ:=jc.trans fX
       go_wp2_with fail
       go_roundw
       case measure=>simp[sE,js]
       case rel=>exact uQ.out _ _ kJ Fb (by rw[Lz.oh _ _ _ _ SN];rfl)
    ·
     obtain rfl:d=2:=by rw[<-hd];exact h0
     clear hd h0;have cS:=Ih (ug B M u' w3 lh (by omega))
     go_wp2_with fail
     refine cS.out.mono ?_;rintro e w4 ⟨rfl,dy,E7⟩;have zt:=jc.trans dy;have Wa:B<=w4.heap.size:=Nat.le_trans sq dy.size;cases gu with
     | true=>
       go_wp2_with fail
       go_roundw
       case measure=>have:=AQ.out (by trivial);simp[sE,js];omega
       case rel=>exact uQ.out _ _ zt E7 (by rw[Lz.oq _ _ _ _ SN];rfl)
     | false=>
       obtain⟨sch,usr,pas,hh,hst,prt,opq,a,c,xs,hq,hf,qry,frg,hk,lq,hc,aA⟩:=E7.form
       have o7:xs.length<=1000000000:=by
        have h1:=congrArg (fun z:Lz.ag=>z.path.length) lq;simp only[List.length_map]at h1;rw[<-h1];have h2:(Lz.bu u'.scheme u'.path).length<=u'.path.length:=xN _ _;omega
       have c7:=rowAt hk.row 7 (.slice a xs.length c) rfl;have AN:=hk.own.below ((Below.refl _ w4).alloc (Nat.le_refl _) (.cells #[.string ⟨#[]⟩] 9))
       go_wp2_with (at_builtin;refine dC _ rfl (.tmp 31) (.tmp 32) rfl B _ xs rfl AN ⟨w4.heap.size,0,none⟩ 1 ⟨#[]⟩ rfl (bD _ _ _ 0 _ rfl) o7 (by simp;omega) ?_)
       intro g7 n7 c7' w5 row eL hg aZ;obtain⟨aI,yb⟩:=pr hk Wa hg aZ;have c75:=rowAt yb 7 (.slice a xs.length c) rfl;have f75:=bE yb 7;obtain⟨fX,PE⟩:=mm aI yb hk.le eL;have Fb:=sU PE lq;have kJ:=zt.trans fX
       go_wp2_with fail
       go_roundw
       case measure=>simp[sE,js]
       case rel=>exact uQ.out _ _ kJ Fb (by rw[Lz.oq _ _ _ _ SN];rfl)
end Go.Proofs.YtecoeebjaleeiaaGreatDoor
