/-
  Package urls: on.
-/
import Derived.Test.YtjhccadmmnjpeaaGreatDoorT20
import Derived.Test.YtjhccadmmnjpeaaGreatDoorT14
set_option maxHeartbeats 2000000
set_option maxRecDepth 1000000
namespace Lz
open Go
theorem indexAny_pl (ch:Bs):∀l:Bs,Lib.indexAny l ch=match plQ ch.contains l with|some n=>(n:Int)|none=> -1
 | []=>rfl
 | c::r=>by
   have ih:=indexAny_pl ch r;rw[Lib.indexAny,plQ,List.findIdx?_cons];cases hc:ch.contains c with
   | true=>simp
   | false=>
     simp only[Bool.false_eq_true,if_false];rw[ih];show _=_;cases hp:plQ ch.contains r with
     | none=>
       have:List.findIdx? ch.contains r=none:=hp
       simp[this]
     | some n=>
       have:List.findIdx? ch.contains r=some n:=hp;simp only[this,Option.map_some];rw[if_neg (by rw[beq_iff_eq];omega)]
       simp
end Lz
namespace Go.Proofs.YtjhccadmmnjpeaaGreatDoor
open Go.RowKit
theorem indexByte_pl (c:UInt8):∀l:List UInt8,Lib.indexByte l c=intO (Lz.plQ ([c]:List UInt8).contains l)
 | []=>rfl
 | b::l=>by
   have ih:=indexByte_pl c l;rw[Lib.indexByte,Lz.plQ,List.findIdx?_cons];by_cases h:b=c
   ·subst h;simp[intO]
   ·have h1:([c]:List UInt8).contains b=false:=by simp[h]
    rw[h1,if_neg (by simpa using h),ih];show _=intO (if false=true then some 0 else Option.map (fun i=>i+1) (Lz.plQ ([c]:List UInt8).contains l));cases Lz.plQ ([c]:List UInt8).contains l with
    | none=>simp[intO]
    | some n=>
      have hb:((n:Int)== -1)=false:=by rw[beq_eq_false_iff_ne];omega
      show(if((n:Int)== -1)=true then(-1:Int)else(n:Int)+1)=_;rw[hb];simp[intO]
theorem indexAny_intO (ch l:List UInt8):Lib.indexAny l ch=intO (Lz.plQ ch.contains l):=by
 rw[Lz.indexAny_pl];cases Lz.plQ ch.contains l<;>rfl
theorem IndexAny_fewP (s ch:ByteArray) (h8:s.size<=8) (h2:2<=ch.size) (ha:∀c∈ch.data.toList,c.toNat<128) (w:World):
  Calls Tryz.prog 208 #[.string s,.string ch] w fun e w'=>∃o:Option Nat,e=.returned (.int .i64 (intO o))/\Hid (o=Lz.plQ ch.data.toList.contains s.data.toList)/\Below w.heap.size w w':=by
 have he:=isEmpty_of_pos (s:=ch) (by omega);have hc1:((ch.size:Int)==1)=false:=beq_eq_false_iff_ne.2 (by omega);have cU:=fun W=>Tryz.strings_shouldUseASCIISet (s.size:Int) W;rw[decide_eq_false (show ¬(8:Int)<(s.size:Int) by omega)]at cU;have CU:=Ih fun W=>(cU W).mono fun _ _ (h:_/\_)=>(⟨h.1,h.2.symm⟩:_/\W=_);have Ha:=Ih ha;clear cU ha;go_enter Tryz.func208,Tryz.ntmps208
 go_wp2_with fail
 refine(CU.out _).mono ?_;rintro e w' ⟨rfl,rfl⟩
 go_wp2
 go_loopg [] s.size (fun gf wx=>∃pos:Nat,wx.heap[w.heap.size]? =some (.stringIter s pos)/\Below w.heap.size w wx/\s.size<=pos+gf/\Hid (Lz.plQ ch.data.toList.contains s.data.toList=(Lz.plQ ch.data.toList.contains (s.data.toList.drop pos)).map (·+pos)))
 case atStart=>exact⟨0,World.iter_heap w s 0,(Below.refl _ w).alloc (Nat.le_refl _) _,by omega,Ih (by rw[List.drop_zero];cases Lz.plQ ch.data.toList.contains s.data.toList<;>rfl)⟩
 case round=>
  obtain⟨pos,hit,hbw,hfu,hS⟩:=hrel;by_cases hps:pos<s.size
  ·obtain⟨g',rfl⟩:∃g',gk=g'+1:=⟨gk-1,by omega⟩;have hnx:∀ty,(Instr.next (.pointer (some ⟨w.heap.size,0,none⟩)) true ty).run Tryz.prog wr=_:=fun ty=>Lib.run_next_any_at wr w.heap.size s pos ty hit hps;have hwd:=Lib.width_pos s pos;have hval:=Lz.rune_valid s pos
   have hstep:Hid ((Lz.plQ ch.data.toList.contains (s.data.toList.drop pos)).map (·+pos)=if(decide ((Utf8.decode s pos).1<128)&&ch.data.toList.contains (UInt8.ofNat (Utf8.decode s pos).1))=true then some pos else(Lz.plQ ch.data.toList.contains (s.data.toList.drop (pos+(Utf8.decode s pos).2))).map (·+(pos+(Utf8.decode s pos).2))):=by
    show _=_;rcases Nat.lt_or_ge (s[pos]'hps).toNat 128 with h1|h1
    ·rw[decode_ascii s pos hps h1]
     have hd:s.data.toList.drop pos=s[pos]::s.data.toList.drop (pos+1):=by
      rw[List.drop_eq_getElem_cons (show pos<s.data.toList.length from hps)];rfl
     rw[hd,Lz.plQ,List.findIdx?_cons,decide_eq_true h1];simp only[Bool.true_and,UInt8.ofNat_toNat];cases ch.data.toList.contains s[pos]with
     | true=>simp
     | false=>
       simp only[Bool.false_eq_true,if_false];show _=Option.map _ (Lz.plQ ch.data.toList.contains (s.data.toList.drop (pos+1)));show Option.map _ (Option.map _ (Lz.plQ ch.data.toList.contains (s.data.toList.drop (pos+1))))=_;cases Lz.plQ ch.data.toList.contains (s.data.toList.drop (pos+1))with
       | none=>rfl
       | some n=>simp;omega
    ·have hr:=Lz.rune_hi s pos hps h1;rw[decide_eq_false (by omega),Bool.false_and,if_neg (by simp)];refine Lz.plQ_skip _ _ _ _ ?_;intro j b h3 h4 hj;have hjl:j<s.size:=by rw[<-len_of_size];exact(List.getElem?_eq_some_iff.1 hj).1
     have h5:=Lz.hi_bytes s pos hps h1 j h3 h4 hjl;rw[get_of_lt hjl]at hj;rw[Option.some.inj hj]at h5;rw[Bool.eq_false_iff];intro hm;have:=Ha.out b (List.contains_iff_mem.1 hm);omega
   generalize hR:(Utf8.decode s pos).1=R at hnx hval hstep;generalize hK:(Utf8.decode s pos).2=K at hnx hwd hstep;clear hR hK;have hit2:=Lib.iterAt_heap wr w.heap.size s pos (pos+K) hit;have hbw2:=Lib.below_iterAt hbw (k:=w.heap.size) (Nat.le_refl _) s (pos+K);have hlw:w.heap.size<(wr.iterAt w.heap.size s (pos+K)).heap.size:=(Array.getElem?_eq_some_iff.1 hit2).1;generalize wr.iterAt w.heap.size s (pos+K)=W at hnx hit2 hbw2 hlw;have CI:=Ih (IndexRune_asc ch Ha.out R hval W);have Hit2:=Ih hit2;clear hval hit2 hit
   go_wp2_with fail
   refine(CI.out).mono ?_;rintro e w2 ⟨i,rfl,hi,hb2⟩;have hit3:Hid (w2.heap[w.heap.size]? =some (.stringIter s (pos+K))):=by show _=_;rw[hb2.block _ hlw];exact Hit2.out
   have hbw3:Below w.heap.size w w2:=hbw2.trans (hb2.mono hbw2.size);by_cases hi0:0<=i
   ·have HD:Hid (some pos=Lz.plQ ch.data.toList.contains s.data.toList):=by
     show _=_;have h1:=hi.out;rw[decide_eq_true hi0]at h1;rw[hS.out,hstep.out,if_pos h1.symm]
    go_wp2
    go_ret;exact⟨some pos,rfl,HD,hbw3⟩
   ·have HD:Hid (Lz.plQ ch.data.toList.contains s.data.toList=(Lz.plQ ch.data.toList.contains (s.data.toList.drop (pos+K))).map (·+(pos+K))):=by
     show _=_;have h1:=hi.out;rw[decide_eq_false hi0]at h1;rw[hS.out,hstep.out,if_neg (by rw[<-h1];simp)]
    go_wp2
    go_roundg g'
    case measure=>omega
    case rel=>exact⟨pos+K,hit3.out,hbw3,by omega,HD⟩
  ·have hnx:∀ty,(Instr.next (.pointer (some ⟨w.heap.size,0,none⟩)) true ty).run Tryz.prog wr=_:=fun ty=>Lib.run_next_end_at wr w.heap.size s pos ty hit hps
   have HD:Hid (none=Lz.plQ ch.data.toList.contains s.data.toList):=by
    show _=_;rw[hS.out,List.drop_eq_nil_of_le (by rw[len_of_size];omega)];rfl
   go_wp2
   go_ret;exact⟨none,rfl,HD,hbw⟩
theorem IndexAny_one (s ch:ByteArray) (hch:ch.data.toList=[47]) (w:World):Calls Tryz.prog 208 #[.string s,.string ch] w fun e w'=>∃o:Option Nat,e=.returned (.int .i64 (intO o))/\Hid (o=Lz.plQ ([47]:List UInt8).contains s.data.toList)/\Below w.heap.size w w':=by
 have hz:ch.size=1:=by rw[<-len_of_size,hch];rfl
 have hp:0<ch.size:=by omega
 have hpI:(0:Int)<(ch.size:Int):=by omega
 have he:=isEmpty_of_pos (s:=ch) hp;have hc1:((ch.size:Int)==1)=true:=by rw[hz];rfl
 have h0:ch[0]=47:=by
  have:=get_of_lt (s:=ch) (n:=0) hp;rw[hch]at this;simpa using this.symm
 have h0I:(ch[0].toNat:Int)=47:=by rw[h0];rfl
 have cI:=Tryz.strings_IndexRune_ascii s 47;have CI:=Ih (fun W=>(cI W (by omega) (by omega)).mono fun _ _ (h:_/\_)=>(⟨h.1,h.2.symm⟩:_/\W=_));have hV:Lib.indexByte s.data.toList (47:Int).toNat.toUInt8=intO (Lz.plQ ([47]:List UInt8).contains s.data.toList):=indexByte_pl 47 _;rw[hV]at CI;clear hV cI hch h0 hz;go_enter Tryz.func208,Tryz.ntmps208
 go_wp2_with fail
 refine(CI.out _).mono ?_;rintro e w' ⟨rfl,rfl⟩
 go_wp2_with fail
 go_ret;exact⟨_,rfl,Ih rfl,Below.refl _ _⟩
theorem IndexAny_sl (s:ByteArray) (hs:s.size<=1073741824) (sp:Bool) (w:World):Calls Tryz.prog 208 #[.string s,.string (slashB sp)] w fun e w'=>∃o:Option Nat,e=.returned (.int .i64 (intO o))/\Hid (o=Lz.plQ (Lz.slashQ sp) s.data.toList)/\Below w.heap.size w w':=by
 cases sp with
 | false=>
   have:=IndexAny_one s ⟨#[47]⟩ rfl w;rw[show([47]:List UInt8).contains=Lz.slashQ false from Lz.slash_contains false]at this;exact this
 | true=>
   have hc:([47,92]:List UInt8).contains=Lz.slashQ true:=Lz.slash_contains true;have ha:∀c∈(slashB true).data.toList,c.toNat<128:=by decide
   by_cases h8:s.size<=8
   ·have:=IndexAny_fewP s (slashB true) h8 (by decide) ha w;rw[show(slashB true).data.toList.contains=Lz.slashQ true from hc]at this;exact this
   ·refine(Tryz.strings_IndexAny_long (zero_of_info info256).1 s (slashB true) w (by decide) (by omega) (by omega) (by decide) (fun j b hj=>ha b (List.mem_of_getElem? hj))).mono ?_;rintro e w' ⟨he,hw⟩;refine⟨_,by rw[he,indexAny_intO],Ih (by rw[show(slashB true).data.toList.contains=Lz.slashQ true from hc]),?_⟩;rw[hw];exact((Below.refl _ w).alloc (Nat.le_refl _) _).alloc (by simp) _
theorem cutM_any (M:Nat) (sp:Bool) (s:ByteArray) (hs:s.size<=1073741824) (w:World) (h13:w.cell? ⟨M,13,none⟩=some (.string (slashB sp))):
  Calls Tryz.prog 158 #[.pointer (some ⟨M,0,none⟩),.string s] w (RStrStrB (Lz.cutS sp s.data.toList).1 (Lz.cutS sp s.data.toList).2.1 (Lz.cutS sp s.data.toList).2.2 w):=by
 have cI:=Ih (IndexAny_sl s hs sp w);go_enter Tryz.func158,Tryz.ntmps158
 go_wp2_with fail
 refine cI.out.mono ?_;rintro e w1 ⟨o,rfl,ho,hb1⟩;generalize hii:intO o=ii;cases o with
 | none=>
   obtain rfl:(-1:Int)=ii:=hii;have HC:Hid (Lz.cutS sp s.data.toList=(s.data.toList,[],false)):=Ih (Lz.cutS_none ho.out.symm);clear ho
   go_wp2_with fail
   go_ret3
   rw[HC.out];exact⟨s,⟨#[]⟩,rfl,Ih rfl,Ih rfl,hb1⟩
 | some i=>
   obtain rfl:(i:Int)=ii:=hii;have HC:Hid (Lz.cutS sp s.data.toList=(s.data.toList.take i,s.data.toList.drop (i+1),true)):=Ih (Lz.cutS_some ho.out.symm);have hil:i<s.size:=by rw[<-len_of_size];exact Lz.plQ_lt ho.out.symm
   clear ho;have hi0:¬((i:Int)<0):=by omega
   have hi1:(i:Int)<=(s.size:Int):=by omega
   have hi2:(0:Int)<=(i:Int)+1:=by omega
   have hi3:(i:Int)+1<=(s.size:Int):=by omega
   have hi4:((i:Int)+1).toNat=i+1:=by omega
   have hi5:(0:Int)<=(i:Int):=by omega
   have hw1:IntKind.i64.wrap ((i:Int)+1)=(i:Int)+1:=IntWalk.i64_in _ (by omega)
   go_wp2_with fail
   go_quiet (fail)
   go_wp2_with fail
   go_ret3
   rw[HC.out];exact⟨_,_,rfl,Ih (extract_head2 _ _),Ih (extract_tail' _ _),below_drewN hb1 _⟩
def strLen:Value->Nat
 | .string s=>s.size
 | _=>0
def bitN:Value->Nat
 | .bool true=>1
 | _=>0
theorem shortP_len (s:List UInt8) (l:List (List UInt8)):(Lz.shortP s l).length<=l.length:=by
 unfold Lz.shortP;split
 ·exact Nat.le_refl _
 ·simp
def OnRel (B M:Nat) (goal:Lz.UrlL) (L:Nat) (w:World) (t m:Value) (wr:World):Prop:=
 ∃(tb:ByteArray) (b:Bool) (u:Lz.UrlL),t=.string tb/\m=.bool b/\Below B w wr/\MkIs B M wr u/\Hid (goal=if b then Lz.onP u tb.data.toList else u)/\(b=true->u.path.length+tb.size<=L)
theorem mkis_path {B M:Nat} {w:World} {sch usr pas:ByteArray} {hh:Bool} {hst:ByteArray} {prt:Int} {opq:Bool} {pv:Value} {xs:List ByteArray} {hq hf:Bool} {qry frg:ByteArray} {l:List (List UInt8)}
 (h:MkAt B M w ⟨sch,usr,pas,hh,hst,prt,opq,pv,xs,hq,hf,qry,frg⟩ (Lz.specP sch.data.toList) (slashB (Lz.specP sch.data.toList))) (hl:xs.map (fun x:ByteArray=>x.data.toList)=l):
 MkIs B M w ⟨sch.data.toList,usr.data.toList,pas.data.toList,hh,hst.data.toList,prt,opq,l,hq,hf,qry.data.toList,frg.data.toList⟩:=⟨_,h,Ih (by rw[<-hl];rfl)⟩
theorem app_is {B M:Nat} {w:World} {sch usr pas:ByteArray} {hh:Bool} {hst:ByteArray} {prt:Int} {opq:Bool} {pv:Value} {xs:List ByteArray} {hq hf:Bool} {qry frg p:ByteArray} {u:Lz.UrlL}
  (h:MkAt B M w ⟨sch,usr,pas,hh,hst,prt,opq,pv,xs++[p],hq,hf,qry,frg⟩ (Lz.specP sch.data.toList) (slashB (Lz.specP sch.data.toList)))
  (hu:u=⟨sch.data.toList,usr.data.toList,pas.data.toList,hh,hst.data.toList,prt,opq,xs.map (fun x:ByteArray=>x.data.toList),hq,hf,qry.data.toList,frg.data.toList⟩):
  MkIs B M w {u with path:=u.path++[p.data.toList]}:=by
 subst hu;exact mkis_path h (by simp)
theorem on_any (B M:Nat) (t:ByteArray) (u:Lz.UrlL) (w:World) (hE:EnvH w) (hm:MkIs B M w u) (hB:B<=w.heap.size) (hBg:13<=B) (hL:u.path.length+t.size<=100000000):
  Calls Tryz.prog 109 #[.pointer (some ⟨M,0,none⟩),.string t] w (RMk B M (Lz.onP u t.data.toList) w):=by
 obtain⟨goal,hgoal⟩:∃goal,goal=Lz.onP u t.data.toList:=⟨_,rfl⟩;rw[<-hgoal];have Hgoal:=Ih hgoal;clear hgoal;have HE:=Ih hE;have Hm:=Ih hm;clear hE hm;go_enter Tryz.func109,Tryz.ntmps109
 go_wp2_with fail
 go_loopw [1,4] (fun tv mv wr=>OnRel B M goal 100000000 w tv mv wr) (fun tv mv _=>if bitN mv=1 then strLen tv+1 else 0)
 case atStart=>exact⟨t,true,u,rfl,rfl,Below.refl _ _,Hm.out,Ih Hgoal.out,fun _=>hL⟩
 case round=>
  obtain⟨tb,b,u',rfl,rfl,hbw,hmr,hG,hLr⟩:=hrel;have hEr:=HE.out.at hbw hBg;have hBr:B<=wr.heap.size:=Nat.le_trans hB hbw.size;cases b with
  | false=>
    have HF:Hid (goal=u'):=Ih hG.out
    go_wp2_with fail
    go_end0
    exact⟨rfl,hbw,by rw[HF.out];exact hmr⟩
  | true=>
    have hLr:=hLr rfl;have hsp:∃sp,sp=Lz.specP u'.scheme:=⟨_,rfl⟩;obtain⟨sp,hsp⟩:=hsp
    have h13:wr.cell? ⟨M,13,none⟩=some (.string (slashB sp)):=by
     obtain⟨sch,usr,pas,hh,hst,prt,opq,a,c,xs,hq,hf,qry,frg,hk,rfl,_,_⟩:=hmr.form;rw[hsp];exact rowAt hk.row 13 _ rfl
    have cC:=Ih (cutM_any M sp tb (by omega) wr h13);have hstep:=Lz.onP_step u' tb.data.toList;rw[<-hsp]at hstep;generalize hcut:Lz.cutS sp tb.data.toList=cc at cC hstep;obtain⟨pl,rl,more⟩:=cc
    have hG2:Hid (goal=if more then Lz.onP {u' with path:=Lz.stepL u'.scheme u'.path pl true} rl else{u' with path:=Lz.stepL u'.scheme u'.path pl false}):=by
     show _=_;rw[hG.out,if_pos rfl,hstep]
    have hlen:more=true->pl.length+rl.length+1=tb.size:=by
     intro hm;have:=Lz.cutS_more_len (sp:=sp) (s:=tb.data.toList) (by rw[hcut];exact hm);rw[hcut,len_of_size]at this;exact this
    have hlen2:pl.length<=tb.size:=by
     have:=Lz.cutS_len sp tb.data.toList;rw[hcut,len_of_size]at this;simp only at this;omega
    clear hG hcut hstep h13;have HL:=Ih hlen;clear hlen
    go_wp2_with fail
    refine cC.out.mono ?_;rintro e w1 ⟨pb,rb,rfl,hpb,hrb,hb1⟩;have hps:pb.size<=100000000:=by rw[<-len_of_size,hpb.out];omega
    have cE:=Ih (Encode_any 4 (by decide) pb (by omega) w1)
    go_wp2_with fail
    refine cE.out.mono ?_;rintro e w2 ⟨qb,rfl,hqb,hb2⟩
    have hqs:qb.size<=300000000:=by
     have:=Lz.enc_len3 (Lz.moreP 4) pb.data.toList;rw[<-hqb.out,len_of_size,len_of_size]at this;omega
    have hb12:=below_call hb1 hb2;have cD:=Ih (dots_any qb (by omega) w2 (hEr.below hb12))
    go_wp2_with fail
    refine cD.out.mono ?_;rintro e w3 ⟨rfl,hb3⟩;have hb13:=below_call hb12 hb3;have hm3:=hmr.below hb13;have hbw3:Below B w w3:=hbw.trans (hb13.mono hBr);have hB3:B<=w3.heap.size:=Nat.le_trans hBr hb13.size;have hqe:Lz.encodeP (Lz.setU 4) pl=qb.data.toList:=by rw[hqb.out,hpb.out];rfl
    have hrl:rl=rb.data.toList:=hrb.out.symm;clear hqb hpb hrb hb1 hb2 hb3 hb12 hb13 cC cE cD hmr;generalize hd:Lz.dotsP qb.data.toList=d;have hdq:Lz.dotsP (Lz.encodeP (Lz.setU 4) pl)=d:=by rw[hqe];exact hd
    have hnext:Hid (∀(wx:World) (ux:Lz.UrlL),Below B w wx->MkIs B M wx ux->ux={u' with path:=Lz.stepL u'.scheme u'.path pl more}->OnRel B M goal 100000000 w (.string rb) (.bool more) wx):=by
     intro wx ux hbx hmx hux;refine⟨rb,more,ux,rfl,rfl,hbx,hmx,Ih ?_,?_⟩
     ·rw[hG2.out,hux,hrl];cases more<;>rfl
     ·rw[hux];intro hmt;have h1:=Lz.stepL_len u'.scheme u'.path pl more;have h2:rb.size=rl.length:=by rw[hrl,len_of_size]
      show(Lz.stepL u'.scheme u'.path pl more).length+rb.size<=_;have:=HL.out hmt;omega
    have hmeas:Hid (more=true->rb.size+1<tb.size+1):=by
     intro hm;have:=HL.out hm;have h2:rb.size=rl.length:=by rw[hrl,len_of_size]
     omega
    rcases Lz.dotsP_cases qb.data.toList with h0|h0|h0
    ·
     obtain rfl:d=0:=by rw[<-hd];exact h0
     clear hd h0;obtain⟨sch,usr,pas,hh,hst,prt,opq,a,c,xs,hq,hf,qry,frg,hk,hux,hc,hcells⟩:=hm3.form
     have hxl:xs.length<=1000000000:=by
      have h1:=congrArg (fun z:Lz.UrlL=>z.path.length) hux;simp only[List.length_map]at h1;rw[<-h1];omega
     have hus:u'.scheme=sch.data.toList:=by rw[hux]
     have hup:u'.path=xs.map (fun x:ByteArray=>x.data.toList):=by rw[hux]
     have c7:=rowAt hk.row 7 (.slice a xs.length c) rfl;have c0:=rowAt hk.row 0 (.string sch) rfl
     have hA:Hid (¬(u'.scheme=Lz.fileS/\u'.path=[]/\Lz.driveP qb.data.toList=true)->({u' with path:=u'.path++[qb.data.toList]}:Lz.UrlL)={u' with path:=Lz.stepL u'.scheme u'.path pl more}):=by
      intro hn;rw[Lz.stepL_dots0 _ _ _ _ hdq,hqe,if_neg hn]
     by_cases hf0:sch.data.toList=Lz.fileS
     ·have g0:=text_yes (k:=[102,105,108,101]) hf0;by_cases hx:xs=[]
      ·have hzl:((xs.length:Int)==0)=true:=by rw[hx];rfl
       have cR:=drive_any qb w3;cases hdr:Lz.driveP qb.data.toList with
       | true=>
         have hz:qb.size=2:=drive_size hdr;have hz1:(1:Int)<=(qb.size:Int):=by omega
         have hz2:¬(9223372036854775807<(qb.extract 0 1).size+(⟨#[58]⟩:ByteArray).size):=by
          have:=extract_size_le' qb 0 1;have h1:(⟨#[58]⟩:ByteArray).size=1:=rfl;omega
         have hP:Hid ((qb.extract 0 1++⟨#[58]⟩).data.toList=qb.data.toList.take 1++[58]):=by
          show _=_;rw[append_data',extract_head2]
         have hAB:Hid (({u' with path:=u'.path++[(qb.extract 0 1++⟨#[58]⟩).data.toList]}:Lz.UrlL)={u' with path:=Lz.stepL u'.scheme u'.path pl more}):=by
          show _=_;rw[Lz.stepL_dots0 _ _ _ _ hdq,hqe,if_pos ⟨by rw[hus];exact hf0,by rw[hup,hx];rfl,hdr⟩,hP.out]
         rw[hdr]at cR;have CR:=Ih cR;clear cR hf0 hdr hz hx
         go_wp2_with fail
         refine CR.out.mono ?_;rintro e w4 ⟨rfl,rfl⟩;have hoa:=hk.own.below ((Below.refl _ w3).alloc (Nat.le_refl _) (.cells #[.string (qb.extract 0 1++⟨#[58]⟩)] 9))
         go_wp2_with (at_builtin;refine wpList_append_path _ rfl (.tmp 64) (.tmp 66) rfl B _ xs rfl hoa ⟨w3.heap.size,0,none⟩ 1 (qb.extract 0 1++⟨#[58]⟩) rfl (cell_one _ _ _ 0 _ rfl) hxl (by simp;omega) ?_)
         intro g7 n7 c7' w5 row hown5 hg hrow;obtain⟨hb5,hM5⟩:=app_mid hk hB3 hg hrow;have c75:=rowAt hM5 7 (.slice a xs.length c) rfl;have f75:=rowFz hM5 7;obtain⟨hb6,hk6⟩:=app_done hb5 hM5 hk.le hown5;have hm6:=app_is hk6 hux;have hb7:=hbw3.trans hb6
         go_wp2_with fail
         go_roundw
         case measure=>cases more with
          | true=>have:=hmeas.out (by trivial);simp[bitN,strLen];omega
          | false=>simp[bitN,strLen]
         case rel=>exact hnext.out _ _ hb7 hm6 (by exact hAB.out)
       | false=>
         have hAB:=Ih (hA.out (fun h=>by rw[hdr]at h;exact absurd h.2.2 (by simp)));rw[hdr]at cR;have CR:=Ih cR;clear cR hf0 hdr hx
         go_wp2_with fail
         refine CR.out.mono ?_;rintro e w4 ⟨rfl,rfl⟩;have hoa:=hk.own.below ((Below.refl _ w3).alloc (Nat.le_refl _) (.cells #[.string qb] 9))
         go_wp2_with (at_builtin;refine wpList_append_path _ rfl (.tmp 64) (.tmp 66) rfl B _ xs rfl hoa ⟨w3.heap.size,0,none⟩ 1 qb rfl (cell_one _ _ _ 0 _ rfl) hxl (by simp;omega) ?_)
         intro g7 n7 c7' w5 row hown5 hg hrow;obtain⟨hb5,hM5⟩:=app_mid hk hB3 hg hrow;have c75:=rowAt hM5 7 (.slice a xs.length c) rfl;have f75:=rowFz hM5 7;obtain⟨hb6,hk6⟩:=app_done hb5 hM5 hk.le hown5;have hm6:=app_is hk6 hux;have hb7:=hbw3.trans hb6
         go_wp2_with fail
         go_roundw
         case measure=>cases more with
          | true=>have:=hmeas.out (by trivial);simp[bitN,strLen];omega
          | false=>simp[bitN,strLen]
         case rel=>exact hnext.out _ _ hb7 hm6 (by exact hAB.out)
      ·have hne:xs≠[]:=hx
       have hzl:((xs.length:Int)==0)=false:=by
        have:0<xs.length:=List.length_pos_iff.2 hne;rw[beq_eq_false_iff_ne];omega
       have hAB:=Ih (hA.out (fun h=>hne (by rw[hup]at h;simpa using h.2.1)));clear hf0 hx hne;have hoa:=hk.own.below ((Below.refl _ w3).alloc (Nat.le_refl _) (.cells #[.string qb] 9))
       go_wp2_with (at_builtin;refine wpList_append_path _ rfl (.tmp 64) (.tmp 66) rfl B _ xs rfl hoa ⟨w3.heap.size,0,none⟩ 1 qb rfl (cell_one _ _ _ 0 _ rfl) hxl (by simp;omega) ?_)
       intro g7 n7 c7' w5 row hown5 hg hrow;obtain⟨hb5,hM5⟩:=app_mid hk hB3 hg hrow;have c75:=rowAt hM5 7 (.slice a xs.length c) rfl;have f75:=rowFz hM5 7;obtain⟨hb6,hk6⟩:=app_done hb5 hM5 hk.le hown5;have hm6:=app_is hk6 hux;have hb7:=hbw3.trans hb6
       go_wp2_with fail
       go_roundw
       case measure=>cases more with
        | true=>have:=hmeas.out (by trivial);simp[bitN,strLen];omega
        | false=>simp[bitN,strLen]
       case rel=>exact hnext.out _ _ hb7 hm6 (by exact hAB.out)
     ·have g0:=text_no (k:=[102,105,108,101]) hf0;have hAB:=Ih (hA.out (fun h=>hf0 (by rw[<-hus];exact h.1)));clear hf0;have hoa:=hk.own.below ((Below.refl _ w3).alloc (Nat.le_refl _) (.cells #[.string qb] 9))
      go_wp2_with (at_builtin;refine wpList_append_path _ rfl (.tmp 64) (.tmp 66) rfl B _ xs rfl hoa ⟨w3.heap.size,0,none⟩ 1 qb rfl (cell_one _ _ _ 0 _ rfl) hxl (by simp;omega) ?_)
      intro g7 n7 c7' w5 row hown5 hg hrow;obtain⟨hb5,hM5⟩:=app_mid hk hB3 hg hrow;have c75:=rowAt hM5 7 (.slice a xs.length c) rfl;have f75:=rowFz hM5 7;obtain⟨hb6,hk6⟩:=app_done hb5 hM5 hk.le hown5;have hm6:=app_is hk6 hux;have hb7:=hbw3.trans hb6
      go_wp2_with fail
      go_roundw
      case measure=>cases more with
       | true=>have:=hmeas.out (by trivial);simp[bitN,strLen];omega
       | false=>simp[bitN,strLen]
      case rel=>exact hnext.out _ _ hb7 hm6 (by exact hAB.out)
    ·
     obtain rfl:d=1:=by rw[<-hd];exact h0
     clear hd h0;cases more with
     | true=>
       go_wp2_with fail
       go_roundw
       case measure=>have:=hmeas.out (by trivial);simp[bitN,strLen];omega
       case rel=>exact hnext.out _ _ hbw3 hm3 (by rw[Lz.stepL_dots1 _ _ _ _ hdq];rfl)
     | false=>
       obtain⟨sch,usr,pas,hh,hst,prt,opq,a,c,xs,hq,hf,qry,frg,hk,hux,hc,hcells⟩:=hm3.form
       have hxl:xs.length<=1000000000:=by
        have h1:=congrArg (fun z:Lz.UrlL=>z.path.length) hux;simp only[List.length_map]at h1;rw[<-h1];omega
       have c7:=rowAt hk.row 7 (.slice a xs.length c) rfl;have hoa:=hk.own.below ((Below.refl _ w3).alloc (Nat.le_refl _) (.cells #[.string ⟨#[]⟩] 9))
       go_wp2_with (at_builtin;refine wpList_append_path _ rfl (.tmp 31) (.tmp 32) rfl B _ xs rfl hoa ⟨w3.heap.size,0,none⟩ 1 ⟨#[]⟩ rfl (cell_one _ _ _ 0 _ rfl) hxl (by simp;omega) ?_)
       intro g7 n7 c7' w5 row hown5 hg hrow;obtain⟨hb5,hM5⟩:=app_mid hk hB3 hg hrow;have c75:=rowAt hM5 7 (.slice a xs.length c) rfl;have f75:=rowFz hM5 7;obtain⟨hb6,hk6⟩:=app_done hb5 hM5 hk.le hown5;have hm6:=app_is hk6 hux;have hb7:=hbw3.trans hb6
       go_wp2_with fail
       go_roundw
       case measure=>simp[bitN,strLen]
       case rel=>exact hnext.out _ _ hb7 hm6 (by rw[Lz.stepL_dots1 _ _ _ _ hdq];rfl)
    ·
     obtain rfl:d=2:=by rw[<-hd];exact h0
     clear hd h0;have cS:=Ih (shorten_any B M u' w3 hm3 (by omega))
     go_wp2_with fail
     refine cS.out.mono ?_;rintro e w4 ⟨rfl,hb4,hm4⟩;have hbw4:=hbw3.trans hb4;have hB4:B<=w4.heap.size:=Nat.le_trans hB3 hb4.size;cases more with
     | true=>
       go_wp2_with fail
       go_roundw
       case measure=>have:=hmeas.out (by trivial);simp[bitN,strLen];omega
       case rel=>exact hnext.out _ _ hbw4 hm4 (by rw[Lz.stepL_dots2 _ _ _ _ hdq];rfl)
     | false=>
       obtain⟨sch,usr,pas,hh,hst,prt,opq,a,c,xs,hq,hf,qry,frg,hk,hux,hc,hcells⟩:=hm4.form
       have hxl:xs.length<=1000000000:=by
        have h1:=congrArg (fun z:Lz.UrlL=>z.path.length) hux;simp only[List.length_map]at h1;rw[<-h1];have h2:(Lz.shortP u'.scheme u'.path).length<=u'.path.length:=shortP_len _ _;omega
       have c7:=rowAt hk.row 7 (.slice a xs.length c) rfl;have hoa:=hk.own.below ((Below.refl _ w4).alloc (Nat.le_refl _) (.cells #[.string ⟨#[]⟩] 9))
       go_wp2_with (at_builtin;refine wpList_append_path _ rfl (.tmp 31) (.tmp 32) rfl B _ xs rfl hoa ⟨w4.heap.size,0,none⟩ 1 ⟨#[]⟩ rfl (cell_one _ _ _ 0 _ rfl) hxl (by simp;omega) ?_)
       intro g7 n7 c7' w5 row hown5 hg hrow;obtain⟨hb5,hM5⟩:=app_mid hk hB4 hg hrow;have c75:=rowAt hM5 7 (.slice a xs.length c) rfl;have f75:=rowFz hM5 7;obtain⟨hb6,hk6⟩:=app_done hb5 hM5 hk.le hown5;have hm6:=app_is hk6 hux;have hb7:=hbw4.trans hb6
       go_wp2_with fail
       go_roundw
       case measure=>simp[bitN,strLen]
       case rel=>exact hnext.out _ _ hb7 hm6 (by rw[Lz.stepL_dots2 _ _ _ _ hdq];rfl)
end Go.Proofs.YtjhccadmmnjpeaaGreatDoor
