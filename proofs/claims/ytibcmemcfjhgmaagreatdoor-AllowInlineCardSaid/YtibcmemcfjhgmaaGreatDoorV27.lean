/-
  Package urls: on.
-/
import Derived.Test.YtibcmemcfjhgmaaGreatDoorV20
import Derived.Test.YtibcmemcfjhgmaaGreatDoorV17
set_option maxHeartbeats 2000000
set_option maxRecDepth 1000000
namespace Lz
open Go
theorem sB (ch:Bs):∀l:Bs,Lib.indexAny l ch=match plQ ch.contains l with|some n=>(n:Int)|none=> -1
 | []=>rfl
 | c::r=>by
   have ih:=sB ch r;rw[Lib.indexAny,plQ,List.findIdx?_cons];cases hc:ch.contains c with
   | true=>simp
   | false=>
     simp only[Bool.false_eq_true,if_false];rw[ih];show _=_;cases hp:plQ ch.contains r with
     | none=>
       have:List.findIdx? ch.contains r=none:=hp
       simp[this]
     | some n=>
       have:List.findIdx? ch.contains r=some n:=hp;simp only[this,Option.map_some];rw[if_neg (by rw[beq_iff_eq];omega)]
       simp
end Lz
namespace Go.Proofs.YtibcmemcfjhgmaaGreatDoor
open Go.RowKit
theorem pG (c:UInt8):∀l:List UInt8,Lib.indexByte l c=mi (Lz.plQ ([c]:List UInt8).contains l)
 | []=>rfl
 | b::l=>by
   have ih:=pG c l;rw[Lib.indexByte,Lz.plQ,List.findIdx?_cons];by_cases h:b=c
   ·subst h;simp[mi]
   ·have h1:([c]:List UInt8).contains b=false:=by simp[h]
    rw[h1,if_neg (by simpa using h),ih];show _=mi (if false=true then some 0 else Option.map (fun i=>i+1) (Lz.plQ ([c]:List UInt8).contains l));cases Lz.plQ ([c]:List UInt8).contains l with
    | none=>simp[mi]
    | some n=>
      have hb:((n:Int)== -1)=false:=by rw[beq_eq_false_iff_ne];omega
      show(if((n:Int)== -1)=true then(-1:Int)else(n:Int)+1)=_;rw[hb];simp[mi]
theorem xm (ch l:List UInt8):Lib.indexAny l ch=mi (Lz.plQ ch.contains l):=by
 rw[Lz.sB];cases Lz.plQ ch.contains l<;>rfl
theorem wU (s ch:ByteArray) (h8:s.size<=8) (h2:2<=ch.size) (ha:∀c∈ch.data.toList,c.toNat<128) (w:World):
  Calls Tryz.prog 233 #[.string s,.string ch] w fun e w'=>∃o:Option Nat,e=.returned (.int .i64 (mi o))/\Hid (o=Lz.plQ ch.data.toList.contains s.data.toList)/\Below w.heap.size w w':=by
 have he:=aG (s:=ch) (by omega);have iE:((ch.size:Int)==1)=false:=beq_eq_false_iff_ne.2 (by omega);have cU:=fun W=>Tryz.strings_shouldUseASCIISet (s.size:Int) W;rw[decide_eq_false (show ¬(8:Int)<(s.size:Int) by omega)]at cU;have CU:=Ih fun W=>(cU W).mono fun _ _ (h:_/\_)=>(⟨h.1,h.2.symm⟩:_/\W=_);have Ha:=Ih ha;clear cU ha;go_enter Tryz.func233,Tryz.ntmps233
 go_wp2_with fail
 refine(CU.out _).mono ?_;rintro e w' ⟨rfl,rfl⟩
 go_wp2
 go_loopg [] s.size (fun gf wx=>∃pos:Nat,wx.heap[w.heap.size]? =some (.stringIter s pos)/\Below w.heap.size w wx/\s.size<=pos+gf/\Hid (Lz.plQ ch.data.toList.contains s.data.toList=(Lz.plQ ch.data.toList.contains (s.data.toList.drop pos)).map (·+pos)))
 case atStart=>exact⟨0,World.iter_heap w s 0,(Below.refl _ w).alloc (Nat.le_refl _) _,by omega,Ih (by rw[List.drop_zero];cases Lz.plQ ch.data.toList.contains s.data.toList<;>rfl)⟩
 case round=>
  obtain⟨pos,hit,aC,hfu,hS⟩:=hrel;by_cases lk:pos<s.size
  ·obtain⟨g',rfl⟩:∃g',gk=g'+1:=⟨gk-1,by omega⟩;have jE:∀ty,(Instr.next (.pointer (some ⟨w.heap.size,0,none⟩)) true ty).run Tryz.prog wr=_:=fun ty=>Lib.run_next_any_at wr w.heap.size s pos ty hit lk;have hwd:=Lib.width_pos s pos;have qJ:=Lz.uf s pos
   have dB:Hid ((Lz.plQ ch.data.toList.contains (s.data.toList.drop pos)).map (·+pos)=if(decide ((Utf8.decode s pos).1<128)&&ch.data.toList.contains (UInt8.ofNat (Utf8.decode s pos).1))=true then some pos else(Lz.plQ ch.data.toList.contains (s.data.toList.drop (pos+(Utf8.decode s pos).2))).map (·+(pos+(Utf8.decode s pos).2))):=by
    show _=_;rcases Nat.lt_or_ge (s[pos]'lk).toNat 128 with h1|h1
    ·rw[decode_ascii s pos lk h1]
     have hd:s.data.toList.drop pos=s[pos]::s.data.toList.drop (pos+1):=by
      rw[List.drop_eq_getElem_cons (show pos<s.data.toList.length from lk)];rfl
     rw[hd,Lz.plQ,List.findIdx?_cons,decide_eq_true h1];simp only[Bool.true_and,UInt8.ofNat_toNat];cases ch.data.toList.contains s[pos]with
     | true=>simp
     | false=>
       simp only[Bool.false_eq_true,if_false];show _=Option.map _ (Lz.plQ ch.data.toList.contains (s.data.toList.drop (pos+1)));show Option.map _ (Option.map _ (Lz.plQ ch.data.toList.contains (s.data.toList.drop (pos+1))))=_;cases Lz.plQ ch.data.toList.contains (s.data.toList.drop (pos+1))with
       | none=>rfl
       | some n=>simp;omega
    ·have hr:=Lz.tC s pos lk h1;rw[decide_eq_false (by omega),Bool.false_and,if_neg (by simp)];refine Lz.Cc _ _ _ _ ?_;intro j b h3 h4 hj;have mq:j<s.size:=by rw[<-ac];exact(List.getElem?_eq_some_iff.1 hj).1
     have h5:=Lz.Di s pos lk h1 j h3 h4 mq;rw[aB mq]at hj;rw[Option.some.inj hj]at h5;rw[Bool.eq_false_iff];intro hm;have:=Ha.out b (List.contains_iff_mem.1 hm);omega
   generalize hR:(Utf8.decode s pos).1=R at jE qJ dB;generalize hK:(Utf8.decode s pos).2=K at jE hwd dB;clear hR hK;have tm:=Lib.iterAt_heap wr w.heap.size s pos (pos+K) hit;have eC:=Lib.below_iterAt aC (k:=w.heap.size) (Nat.le_refl _) s (pos+K);have DD:w.heap.size<(wr.iterAt w.heap.size s (pos+K)).heap.size:=(Array.getElem?_eq_some_iff.1 tm).1;generalize wr.iterAt w.heap.size s (pos+K)=W at jE tm eC DD;have CI:=Ih (ot ch Ha.out R qJ W);have Wn:=Ih tm;clear qJ tm hit
   go_wp2_with fail
   refine(CI.out).mono ?_;rintro e w2 ⟨i,rfl,hi,aE⟩;have VT:Hid (w2.heap[w.heap.size]? =some (.stringIter s (pos+K))):=by show _=_;rw[aE.block _ DD];exact Wn.out
   have gw:Below w.heap.size w w2:=eC.trans (aE.mono eC.size);by_cases j6:0<=i
   ·have HD:Hid (some pos=Lz.plQ ch.data.toList.contains s.data.toList):=by
     show _=_;have h1:=hi.out;rw[decide_eq_true j6]at h1;rw[hS.out,dB.out,if_pos h1.symm]
    go_wp2
    go_ret;exact⟨some pos,rfl,HD,gw⟩
   ·have HD:Hid (Lz.plQ ch.data.toList.contains s.data.toList=(Lz.plQ ch.data.toList.contains (s.data.toList.drop (pos+K))).map (·+(pos+K))):=by
     show _=_;have h1:=hi.out;rw[decide_eq_false j6]at h1;rw[hS.out,dB.out,if_neg (by rw[<-h1];simp)]
    go_wp2
    go_roundg g'
    case measure=>omega
    case rel=>exact⟨pos+K,VT.out,gw,by omega,HD⟩
  ·have jE:∀ty,(Instr.next (.pointer (some ⟨w.heap.size,0,none⟩)) true ty).run Tryz.prog wr=_:=fun ty=>Lib.run_next_end_at wr w.heap.size s pos ty hit lk
   have HD:Hid (none=Lz.plQ ch.data.toList.contains s.data.toList):=by
    show _=_;rw[hS.out,List.drop_eq_nil_of_le (by rw[ac];omega)];rfl
   go_wp2
   go_ret;exact⟨none,rfl,HD,aC⟩
theorem zp (s ch:ByteArray) (hch:ch.data.toList=[47]) (w:World):Calls Tryz.prog 233 #[.string s,.string ch] w fun e w'=>∃o:Option Nat,e=.returned (.int .i64 (mi o))/\Hid (o=Lz.plQ ([47]:List UInt8).contains s.data.toList)/\Below w.heap.size w w':=by
 have hz:ch.size=1:=by rw[<-ac,hch];rfl
 have hp:0<ch.size:=by omega
 have hpI:(0:Int)<(ch.size:Int):=by omega
 have he:=aG (s:=ch) hp;have iE:((ch.size:Int)==1)=true:=by rw[hz];rfl
 have h0:ch[0]=47:=by
  have:=aB (s:=ch) (n:=0) hp;rw[hch]at this;simpa using this.symm
 have h0I:(ch[0].toNat:Int)=47:=by rw[h0];rfl
 have cI:=Tryz.strings_IndexRune_ascii s 47;have CI:=Ih (fun W=>(cI W (by omega) (by omega)).mono fun _ _ (h:_/\_)=>(⟨h.1,h.2.symm⟩:_/\W=_));have hV:Lib.indexByte s.data.toList (47:Int).toNat.toUInt8=mi (Lz.plQ ([47]:List UInt8).contains s.data.toList):=pG 47 _;rw[hV]at CI;clear hV cI hch h0 hz;go_enter Tryz.func233,Tryz.ntmps233
 go_wp2_with fail
 refine(CI.out _).mono ?_;rintro e w' ⟨rfl,rfl⟩
 go_wp2_with fail
 go_ret;exact⟨_,rfl,Ih rfl,Below.refl _ _⟩
theorem B2 (s:ByteArray) (hs:s.size<=1073741824) (sp:Bool) (w:World):Calls Tryz.prog 233 #[.string s,.string (dk sp)] w fun e w'=>∃o:Option Nat,e=.returned (.int .i64 (mi o))/\Hid (o=Lz.plQ (Lz.bE sp) s.data.toList)/\Below w.heap.size w w':=by
 cases sp with
 | false=>
   have:=zp s ⟨#[47]⟩ rfl w;rw[show([47]:List UInt8).contains=Lz.bE false from Lz.jZ false]at this;exact this
 | true=>
   have hc:([47,92]:List UInt8).contains=Lz.bE true:=Lz.jZ true;have ha:∀c∈(dk true).data.toList,c.toNat<128:=by decide
   by_cases h8:s.size<=8
   ·have:=wU s (dk true) h8 (by decide) ha w;rw[show(dk true).data.toList.contains=Lz.bE true from hc]at this;exact this
   ·refine(Tryz.strings_IndexAny_long (zero_of_info Ia).1 s (dk true) w (by decide) (by omega) (by omega) (by decide) (fun j b hj=>ha b (List.mem_of_getElem? hj))).mono ?_;rintro e w' ⟨he,hw⟩;refine⟨_,by rw[he,xm],Ih (by rw[show(dk true).data.toList.contains=Lz.bE true from hc]),?_⟩;rw[hw];exact((Below.refl _ w).alloc (Nat.le_refl _) _).alloc (by simp) _
theorem Dn (M:Nat) (sp:Bool) (s:ByteArray) (hs:s.size<=1073741824) (w:World) (wu:w.cell? ⟨M,13,none⟩=some (.string (dk sp))):
  Calls Tryz.prog 178 #[.pointer (some ⟨M,0,none⟩),.string s] w (qm (Lz.dN sp s.data.toList).1 (Lz.dN sp s.data.toList).2.1 (Lz.dN sp s.data.toList).2.2 w):=by
 have cI:=Ih (B2 s hs sp w);go_enter Tryz.func178,Tryz.ntmps178
 go_wp2_with fail
 refine cI.out.mono ?_;rintro e w1 ⟨o,rfl,ho,av⟩;generalize hii:mi o=ii;cases o with
 | none=>
   obtain rfl:(-1:Int)=ii:=hii;have HC:Hid (Lz.dN sp s.data.toList=(s.data.toList,[],false)):=Ih (Lz.yk ho.out.symm);clear ho
   go_wp2_with fail
   go_ret3
   rw[HC.out];exact⟨s,⟨#[]⟩,rfl,Ih rfl,Ih rfl,av⟩
 | some i=>
   obtain rfl:(i:Int)=ii:=hii;have HC:Hid (Lz.dN sp s.data.toList=(s.data.toList.take i,s.data.toList.drop (i+1),true)):=Ih (Lz.yU ho.out.symm);have pu:i<s.size:=by rw[<-ac];exact Lz.Nl ho.out.symm
   clear ho;have j6:¬((i:Int)<0):=by omega
   have Lo:(i:Int)<=(s.size:Int):=by omega
   have hi2:(0:Int)<=(i:Int)+1:=by omega
   have hi3:(i:Int)+1<=(s.size:Int):=by omega
   have hi4:((i:Int)+1).toNat=i+1:=by omega
   have hi5:(0:Int)<=(i:Int):=by omega
   have me:IntKind.i64.wrap ((i:Int)+1)=(i:Int)+1:=IntWalk.i64_in _ (by omega)
   go_wp2_with fail
   go_quiet (fail)
   go_wp2_with fail
   go_ret3
   rw[HC.out];exact⟨_,_,rfl,Ih (gy _ _),Ih (bN _ _),below_drewN av _⟩
def iU:Value->Nat
 | .string s=>s.size
 | _=>0
def rG:Value->Nat
 | .bool true=>1
 | _=>0
theorem D5 (s:List UInt8) (l:List (List UInt8)):(Lz.bI s l).length<=l.length:=by
 unfold Lz.bI;split
 ·exact Nat.le_refl _
 ·simp
def SP (B M:Nat) (goal:Lz.au) (L:Nat) (w:World) (t m:Value) (wr:World):Prop:=
 ∃(tb:ByteArray) (b:Bool) (u:Lz.au),t=.string tb/\m=.bool b/\Below B w wr/\fQ B M wr u/\Hid (goal=if b then Lz.onP u tb.data.toList else u)/\(b=true->u.path.length+tb.size<=L)
theorem Jj {B M:Nat} {w:World} {sch usr pas:ByteArray} {hh:Bool} {hst:ByteArray} {prt:Int} {opq:Bool} {pv:Value} {xs:List ByteArray} {hq hf:Bool} {qry frg:ByteArray} {l:List (List UInt8)}
 (h:mQ B M w ⟨sch,usr,pas,hh,hst,prt,opq,pv,xs,hq,hf,qry,frg⟩ (Lz.aj sch.data.toList) (dk (Lz.aj sch.data.toList))) (hl:xs.map (fun x:ByteArray=>x.data.toList)=l):
 fQ B M w ⟨sch.data.toList,usr.data.toList,pas.data.toList,hh,hst.data.toList,prt,opq,l,hq,hf,qry.data.toList,frg.data.toList⟩:=⟨_,h,Ih (by rw[<-hl];rfl)⟩
theorem rc {B M:Nat} {w:World} {sch usr pas:ByteArray} {hh:Bool} {hst:ByteArray} {prt:Int} {opq:Bool} {pv:Value} {xs:List ByteArray} {hq hf:Bool} {qry frg p:ByteArray} {u:Lz.au}
  (h:mQ B M w ⟨sch,usr,pas,hh,hst,prt,opq,pv,xs++[p],hq,hf,qry,frg⟩ (Lz.aj sch.data.toList) (dk (Lz.aj sch.data.toList)))
  (hu:u=⟨sch.data.toList,usr.data.toList,pas.data.toList,hh,hst.data.toList,prt,opq,xs.map (fun x:ByteArray=>x.data.toList),hq,hf,qry.data.toList,frg.data.toList⟩):
  fQ B M w {u with path:=u.path++[p.data.toList]}:=by
 subst hu;exact Jj h (by simp)
theorem U1 (B M:Nat) (t:ByteArray) (u:Lz.au) (w:World) (hE:eU w) (hm:fQ B M w u) (hB:B<=w.heap.size) (Gu:15<=B) (hL:u.path.length+t.size<=100000000):
  Calls Tryz.prog 127 #[.pointer (some ⟨M,0,none⟩),.string t] w (RMk B M (Lz.onP u t.data.toList) w):=by
 obtain⟨goal,gC⟩:∃goal,goal=Lz.onP u t.data.toList:=⟨_,rfl⟩;rw[<-gC];have wn:=Ih gC;clear gC;have HE:=Ih hE;have Hm:=Ih hm;clear hE hm;go_enter Tryz.func127,Tryz.ntmps127
 go_wp2_with fail
 go_loopw [1,4] (fun tv mv wr=>SP B M goal 100000000 w tv mv wr) (fun tv mv _=>if rG mv=1 then iU tv+1 else 0)
 case atStart=>exact⟨t,true,u,rfl,rfl,Below.refl _ _,Hm.out,Ih wn.out,fun _=>hL⟩
 case round=>
  obtain⟨tb,b,u',rfl,rfl,aC,hmr,hG,hLr⟩:=hrel;have hEr:=HE.out.at aC Gu;have hBr:B<=wr.heap.size:=Nat.le_trans hB aC.size;cases b with
  | false=>
    have HF:Hid (goal=u'):=Ih hG.out
    go_wp2_with fail
    go_end0
    exact⟨rfl,aC,by rw[HF.out];exact hmr⟩
  | true=>
    have hLr:=hLr rfl;have iB:∃sp,sp=Lz.aj u'.scheme:=⟨_,rfl⟩;obtain⟨sp,iB⟩:=iB
    have wu:wr.cell? ⟨M,13,none⟩=some (.string (dk sp)):=by
     obtain⟨sch,usr,pas,hh,hst,prt,opq,a,c,xs,hq,hf,qry,frg,hk,rfl,_,_⟩:=hmr.form;rw[iB];exact rowAt hk.row 13 _ rfl
    have cC:=Ih (Dn M sp tb (by omega) wr wu);have dB:=Lz.LZ u' tb.data.toList;rw[<-iB]at dB;generalize hcut:Lz.dN sp tb.data.toList=cc at cC dB;obtain⟨pl,rl,gd⟩:=cc
    have Sr:Hid (goal=if gd then Lz.onP {u' with path:=Lz.i5 u'.scheme u'.path pl true} rl else{u' with path:=Lz.i5 u'.scheme u'.path pl false}):=by
     show _=_;rw[hG.out,if_pos rfl,dB]
    have aO:gd=true->pl.length+rl.length+1=tb.size:=by
     intro hm;have:=Lz.xq (sp:=sp) (s:=tb.data.toList) (by rw[hcut];exact hm);rw[hcut,ac]at this;exact this
    have acB:pl.length<=tb.size:=by
     have:=Lz.pW sp tb.data.toList;rw[hcut,ac]at this;simp only at this;omega
    clear hG hcut dB wu;have HL:=Ih aO;clear aO
    go_wp2_with fail
    refine cC.out.mono ?_;rintro e w1 ⟨pb,rb,rfl,xB,hrb,av⟩;have lk:pb.size<=100000000:=by rw[<-ac,xB.out];omega
    have cE:=Ih (iM 4 (by decide) pb (by omega) w1)
    go_wp2_with fail
    refine cE.out.mono ?_;rintro e w2 ⟨qb,rfl,WA,aE⟩
    have Wy:qb.size<=300000000:=by
     have:=Lz.jX (Lz.kt 4) pb.data.toList;rw[<-WA.out,ac,ac]at this;omega
    have nC:=ae av aE;have cD:=Ih (Mf qb (by omega) w2 (hEr.below nC))
    go_wp2_with fail
    refine cD.out.mono ?_;rintro e w3 ⟨rfl,bj⟩;have mn:=ae nC bj;have Dy:=hmr.below mn;have gw:Below B w w3:=aC.trans (mn.mono hBr);have Ld:B<=w3.heap.size:=Nat.le_trans hBr mn.size;have wC:Lz.aq (Lz.dw 4) pl=qb.data.toList:=by rw[WA.out,xB.out];rfl
    have OS:rl=rb.data.toList:=hrb.out.symm;clear WA xB hrb av aE bj nC mn cC cE cD hmr;generalize hd:Lz.ez qb.data.toList=d;have Sj:Lz.ez (Lz.aq (Lz.dw 4) pl)=d:=by rw[wC];exact hd
    have sP:Hid (∀(wx:World) (ux:Lz.au),Below B w wx->fQ B M wx ux->ux={u' with path:=Lz.i5 u'.scheme u'.path pl gd}->SP B M goal 100000000 w (.string rb) (.bool gd) wx):=by
     intro wx ux qL hmx nr;refine⟨rb,gd,ux,rfl,rfl,qL,hmx,Ih ?_,?_⟩
     ·rw[Sr.out,nr,OS];cases gd<;>rfl
     ·rw[nr];intro hmt;have h1:=Lz.Ks u'.scheme u'.path pl gd;have h2:rb.size=rl.length:=by rw[OS,ac]
      show(Lz.i5 u'.scheme u'.path pl gd).length+rb.size<=_;have:=HL.out hmt;omega
    have yY:Hid (gd=true->rb.size+1<tb.size+1):=by
     intro hm;have:=HL.out hm;have h2:rb.size=rl.length:=by rw[OS,ac]
     omega
    rcases Lz.rZ qb.data.toList with h0|h0|h0
    ·
     obtain rfl:d=0:=by rw[<-hd];exact h0
     clear hd h0;obtain⟨sch,usr,pas,hh,hst,prt,opq,a,c,xs,hq,hf,qry,frg,hk,nr,hc,aW⟩:=Dy.form
     have DH:xs.length<=1000000000:=by
      have h1:=congrArg (fun z:Lz.au=>z.path.length) nr;simp only[List.length_map]at h1;rw[<-h1];omega
     have xD:u'.scheme=sch.data.toList:=by rw[nr]
     have Xv:u'.path=xs.map (fun x:ByteArray=>x.data.toList):=by rw[nr]
     have c7:=rowAt hk.row 7 (.slice a xs.length c) rfl;have c0:=rowAt hk.row 0 (.string sch) rfl
     have hA:Hid (¬(u'.scheme=Lz.cJ/\u'.path=[]/\Lz.cz qb.data.toList=true)->({u' with path:=u'.path++[qb.data.toList]}:Lz.au)={u' with path:=Lz.i5 u'.scheme u'.path pl gd}):=by
      intro hn;rw[Lz.mX _ _ _ _ Sj,wC,if_neg hn]
     by_cases wL:sch.data.toList=Lz.cJ
     ·have g0:=eS (k:=[102,105,108,101]) wL;by_cases hx:xs=[]
      ·have hzl:((xs.length:Int)==0)=true:=by rw[hx];rfl
       have cR:=yT qb w3;cases AO:Lz.cz qb.data.toList with
       | true=>
         have hz:qb.size=2:=vK AO;have d9:(1:Int)<=(qb.size:Int):=by omega
         have eo:¬(9223372036854775807<(qb.extract 0 1).size+(⟨#[58]⟩:ByteArray).size):=by
          have:=bg qb 0 1;have h1:(⟨#[58]⟩:ByteArray).size=1:=rfl;omega
         have hP:Hid ((qb.extract 0 1++⟨#[58]⟩).data.toList=qb.data.toList.take 1++[58]):=by
          show _=_;rw[hX,gy]
         have WL:Hid (({u' with path:=u'.path++[(qb.extract 0 1++⟨#[58]⟩).data.toList]}:Lz.au)={u' with path:=Lz.i5 u'.scheme u'.path pl gd}):=by
          show _=_;rw[Lz.mX _ _ _ _ Sj,wC,if_pos ⟨by rw[xD];exact wL,by rw[Xv,hx];rfl,AO⟩,hP.out]
         rw[AO]at cR;have CR:=Ih cR;clear cR wL AO hz hx
         go_wp2_with fail
         refine CR.out.mono ?_;rintro e w4 ⟨rfl,rfl⟩;have zb:=hk.own.below ((Below.refl _ w3).alloc (Nat.le_refl _) (.cells #[.string (qb.extract 0 1++⟨#[58]⟩)] 9))
         go_wp2_with (at_builtin;refine dq _ rfl (.tmp 64) (.tmp 66) rfl B _ xs rfl zb ⟨w3.heap.size,0,none⟩ 1 (qb.extract 0 1++⟨#[58]⟩) rfl (aJ _ _ _ 0 _ rfl) DH (by simp;omega) ?_)
         intro g7 n7 ZH w5 row gU hg bz;obtain⟨bv,wl⟩:=nN hk Ld hg bz;have c75:=rowAt wl 7 (.slice a xs.length c) rfl;have f75:=bX wl 7;obtain⟨eM,Od⟩:=kV bv wl hk.le gU;have O7:=rc Od nr;have ll:=gw.trans eM
         go_wp2_with fail
         go_roundw
         case measure=>cases gd with
          | true=>have:=yY.out (by trivial);simp[rG,iU];omega
          | false=>simp[rG,iU]
         case rel=>exact sP.out _ _ ll O7 (by exact WL.out)
       | false=>
         have WL:=Ih (hA.out (fun h=>by rw[AO]at h;exact absurd h.2.2 (by simp)));rw[AO]at cR;have CR:=Ih cR;clear cR wL AO hx
         go_wp2_with fail
         refine CR.out.mono ?_;rintro e w4 ⟨rfl,rfl⟩;have zb:=hk.own.below ((Below.refl _ w3).alloc (Nat.le_refl _) (.cells #[.string qb] 9))
         go_wp2_with (at_builtin;refine dq _ rfl (.tmp 64) (.tmp 66) rfl B _ xs rfl zb ⟨w3.heap.size,0,none⟩ 1 qb rfl (aJ _ _ _ 0 _ rfl) DH (by simp;omega) ?_)
         intro g7 n7 ZH w5 row gU hg bz;obtain⟨bv,wl⟩:=nN hk Ld hg bz;have c75:=rowAt wl 7 (.slice a xs.length c) rfl;have f75:=bX wl 7;obtain⟨eM,Od⟩:=kV bv wl hk.le gU;have O7:=rc Od nr;have ll:=gw.trans eM
         go_wp2_with fail
         go_roundw
         case measure=>cases gd with
          | true=>have:=yY.out (by trivial);simp[rG,iU];omega
          | false=>simp[rG,iU]
         case rel=>exact sP.out _ _ ll O7 (by exact WL.out)
      ·have du:xs≠[]:=hx
       have hzl:((xs.length:Int)==0)=false:=by
        have:0<xs.length:=List.length_pos_iff.2 du;rw[beq_eq_false_iff_ne];omega
       have WL:=Ih (hA.out (fun h=>du (by rw[Xv]at h;simpa using h.2.1)));clear wL hx du;have zb:=hk.own.below ((Below.refl _ w3).alloc (Nat.le_refl _) (.cells #[.string qb] 9))
       go_wp2_with (at_builtin;refine dq _ rfl (.tmp 64) (.tmp 66) rfl B _ xs rfl zb ⟨w3.heap.size,0,none⟩ 1 qb rfl (aJ _ _ _ 0 _ rfl) DH (by simp;omega) ?_)
       intro g7 n7 ZH w5 row gU hg bz;obtain⟨bv,wl⟩:=nN hk Ld hg bz;have c75:=rowAt wl 7 (.slice a xs.length c) rfl;have f75:=bX wl 7;obtain⟨eM,Od⟩:=kV bv wl hk.le gU;have O7:=rc Od nr;have ll:=gw.trans eM
       go_wp2_with fail
       go_roundw
       case measure=>cases gd with
        | true=>have:=yY.out (by trivial);simp[rG,iU];omega
        | false=>simp[rG,iU]
       case rel=>exact sP.out _ _ ll O7 (by exact WL.out)
     ·have g0:=fU (k:=[102,105,108,101]) wL;have WL:=Ih (hA.out (fun h=>wL (by rw[<-xD];exact h.1)));clear wL;have zb:=hk.own.below ((Below.refl _ w3).alloc (Nat.le_refl _) (.cells #[.string qb] 9))
      go_wp2_with (at_builtin;refine dq _ rfl (.tmp 64) (.tmp 66) rfl B _ xs rfl zb ⟨w3.heap.size,0,none⟩ 1 qb rfl (aJ _ _ _ 0 _ rfl) DH (by simp;omega) ?_)
      intro g7 n7 ZH w5 row gU hg bz;obtain⟨bv,wl⟩:=nN hk Ld hg bz;have c75:=rowAt wl 7 (.slice a xs.length c) rfl;have f75:=bX wl 7;obtain⟨eM,Od⟩:=kV bv wl hk.le gU;have O7:=rc Od nr;have ll:=gw.trans eM
      go_wp2_with fail
      go_roundw
      case measure=>cases gd with
       | true=>have:=yY.out (by trivial);simp[rG,iU];omega
       | false=>simp[rG,iU]
      case rel=>exact sP.out _ _ ll O7 (by exact WL.out)
    ·
     obtain rfl:d=1:=by rw[<-hd];exact h0
     clear hd h0;cases gd with
     | true=>
       go_wp2_with fail
       go_roundw
       case measure=>have:=yY.out (by trivial);simp[rG,iU];omega
       case rel=>exact sP.out _ _ gw Dy (by rw[Lz.mR _ _ _ _ Sj];rfl)
     | false=>
       obtain⟨sch,usr,pas,hh,hst,prt,opq,a,c,xs,hq,hf,qry,frg,hk,nr,hc,aW⟩:=Dy.form
       have DH:xs.length<=1000000000:=by
        have h1:=congrArg (fun z:Lz.au=>z.path.length) nr;simp only[List.length_map]at h1;rw[<-h1];omega
       have c7:=rowAt hk.row 7 (.slice a xs.length c) rfl;have zb:=hk.own.below ((Below.refl _ w3).alloc (Nat.le_refl _) (.cells #[.string ⟨#[]⟩] 9))
       go_wp2_with (at_builtin;refine dq _ rfl (.tmp 31) (.tmp 32) rfl B _ xs rfl zb ⟨w3.heap.size,0,none⟩ 1 ⟨#[]⟩ rfl (aJ _ _ _ 0 _ rfl) DH (by simp;omega) ?_)
       intro g7 n7 ZH w5 row gU hg bz;obtain⟨bv,wl⟩:=nN hk Ld hg bz;have c75:=rowAt wl 7 (.slice a xs.length c) rfl;have f75:=bX wl 7;obtain⟨eM,Od⟩:=kV bv wl hk.le gU;have O7:=rc Od nr;have ll:=gw.trans eM
       go_wp2_with fail
       go_roundw
       case measure=>simp[rG,iU]
       case rel=>exact sP.out _ _ ll O7 (by rw[Lz.mR _ _ _ _ Sj];rfl)
    ·
     obtain rfl:d=2:=by rw[<-hd];exact h0
     clear hd h0;have cS:=Ih (Dj B M u' w3 Dy (by omega))
     go_wp2_with fail
     refine cS.out.mono ?_;rintro e w4 ⟨rfl,eB,O1⟩;have aao:=gw.trans eB;have VU:B<=w4.heap.size:=Nat.le_trans Ld eB.size;cases gd with
     | true=>
       go_wp2_with fail
       go_roundw
       case measure=>have:=yY.out (by trivial);simp[rG,iU];omega
       case rel=>exact sP.out _ _ aao O1 (by rw[Lz.my _ _ _ _ Sj];rfl)
     | false=>
       obtain⟨sch,usr,pas,hh,hst,prt,opq,a,c,xs,hq,hf,qry,frg,hk,nr,hc,aW⟩:=O1.form
       have DH:xs.length<=1000000000:=by
        have h1:=congrArg (fun z:Lz.au=>z.path.length) nr;simp only[List.length_map]at h1;rw[<-h1];have h2:(Lz.bI u'.scheme u'.path).length<=u'.path.length:=D5 _ _;omega
       have c7:=rowAt hk.row 7 (.slice a xs.length c) rfl;have zb:=hk.own.below ((Below.refl _ w4).alloc (Nat.le_refl _) (.cells #[.string ⟨#[]⟩] 9))
       go_wp2_with (at_builtin;refine dq _ rfl (.tmp 31) (.tmp 32) rfl B _ xs rfl zb ⟨w4.heap.size,0,none⟩ 1 ⟨#[]⟩ rfl (aJ _ _ _ 0 _ rfl) DH (by simp;omega) ?_)
       intro g7 n7 ZH w5 row gU hg bz;obtain⟨bv,wl⟩:=nN hk VU hg bz;have c75:=rowAt wl 7 (.slice a xs.length c) rfl;have f75:=bX wl 7;obtain⟨eM,Od⟩:=kV bv wl hk.le gU;have O7:=rc Od nr;have ll:=aao.trans eM
       go_wp2_with fail
       go_roundw
       case measure=>simp[rG,iU]
       case rel=>exact sP.out _ _ ll O7 (by rw[Lz.my _ _ _ _ Sj];rfl)
end Go.Proofs.YtibcmemcfjhgmaaGreatDoor
