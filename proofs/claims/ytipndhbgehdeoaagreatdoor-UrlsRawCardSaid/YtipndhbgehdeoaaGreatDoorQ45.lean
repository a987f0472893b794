/-
  lazaretref08.run: a round, and the loop.
-/
import Derived.Test.YtipndhbgehdeoaaGreatDoorQ44
set_option maxHeartbeats 8000000
set_option maxRecDepth 100000
namespace Go.Proofs.YtipndhbgehdeoaaGreatDoor
open Go.RowKit
def RetPost (X:RX) (a':Act) (w':World):Prop:=∃(a0 a1 a2 a3:Value) (m:Int) (C:Array Value) (l:List Value),l.length=775/\a'=⟨(a0::a1::a2::a3::.pointer (some ⟨X.B,0,none⟩)::.int .i64 m::l).toArray,[]⟩/\Below X.B X.w0 w'/\w'.heap[X.B]? =some (.cells C 25 (0,0))/\C.size=12/\ParseRes X.goal w' (.agg C) m
def NxtR (X:RX) (st0:Lz.Stt) (i0:Nat) (a':Act) (w':World):Prop:=
 ∃(st:Lz.Stt) (buf:ByteArray) (a p n:Bool) (i:Int) (x:MkV) (u14 u15 u16 u17 u18 u19:Value) (l:List Value),l.length=761/\a'=⟨(Value.string X.s::X.bv::undef::undef::.pointer (some ⟨X.B,0,none⟩)::.int .i64 0::.pointer (some ⟨X.M,0,none⟩)::.pointer (some ⟨X.N,0,none⟩)::.string (nmB st)::.string buf::.bool a::.bool p::.bool n::.int .i64 i::u14::u15::u16::u17::u18::u19::l).toArray,[]⟩/\
  UAt X w' x/\OpqW X st w' x/\∃i':Nat,i+1=(i':Int)/\Lz.InvM X.b X.s.data.toList X.goal ⟨buf.data.toList,a,p,n,x.url⟩ i' st/\Lz.muM X.s.data.toList i' st<Lz.muM X.s.data.toList i0 st0
def RoundPost (X:RX) (st:Lz.Stt) (i:Nat):Exit->Act->World->Prop
 | .normal,a',w'=>NxtR X st i a' w'
 | .exit 1,a',w'=>NxtR X st i a' w'
 | .ret,a',w'=>RetPost X a' w'
 | _,_,_=>False
theorem nxt_back {X:RX} {st:Lz.Stt} {i:Nat} {a':Act} {w':World} (hi:i<=X.s.data.toList.length) (h:Nxt X st i true a' w'):NxtR X st i a' w':=by
 obtain⟨st',buf,a,p,n,j,x,u14,u15,u16,u17,u18,u19,l,hl,rfl,hU,hO,hj,hA⟩:=h;have hj:=hj rfl;subst hj;rcases hA with⟨h1,_⟩|⟨_,i',hi',hI,hr⟩
 ·omega
 ·exact⟨st',buf,a,p,n,_,x,u14,u15,u16,u17,u18,u19,l,hl,rfl,hU,hO,i',hi',hI,Lz.mu_less hi hI.1 hr⟩
theorem ret_er {X:RX} {st:Lz.Stt} {i:Nat} {a':Act} {w':World} (h:SwPost X st i .ret a' w'):RetPost X a' w':=by
 obtain⟨k,a0,a1,a2,a3,l,hg,hl,rfl,hb,hr⟩:=h;refine⟨a0,a1,a2,a3,_,zeroC,l,hl,rfl,hb,hr,rfl,?_⟩;rw[hg];exact⟨rfl,zero_own _⟩
def putA (c t:Code):Code:=match c with
 | .seq a (.seq b (.seq i1 (.seq i2 _)))=>.seq a (.seq b (.seq i1 (.seq i2 t)))
 | c=>c
def putB (c s t:Code):Code:=match c with
 | .seq a (.seq b (.seq d (.seq _ _)))=>.seq a (.seq b (.seq d (.seq s t)))
 | c=>c
def runRest (b:Option Code):Code:=cd2 (cd2 (cd2 (cd2 (runIn b))))
def runTail (b:Option Code):Code:=cd2 (cd2 (cd2 (cd2 (runRest b))))
theorem tail_ok (X:RX) (st:Lz.Stt) (i:Nat) (hi:i<=X.s.data.toList.length) (a':Act) (w:World) (h:Nxt X st i false a' w):(runTail Tryz.f19.body).wp Tryz.prog (RoundPost X st i) a' w:=by
 obtain⟨st',buf,a,p,n,j,x,u14,u15,u16,u17,u18,u19,l,hl,rfl,hU,hO,_,hA⟩:=h;obtain⟨f,hf⟩:=FR_of (.string X.s) X.bv undef undef (.pointer (some ⟨X.B,0,none⟩)) (.int .i64 0) (.pointer (some ⟨X.M,0,none⟩)) (.pointer (some ⟨X.N,0,none⟩)) (.string (nmB st')) (.string buf) (.bool a) (.bool p) (.bool n) (.int .i64 j) u14 u15 u16 u17 u18 u19 l hl;rw[hf];clear hf hl;unfold FR
 conv=>arg 2;whnf
 rcases hA with⟨hj,hg⟩|⟨hj,i',hi',hI,hr⟩
 ·rw[len_of_size]at hj;have hge:(X.s.size:Int)<=j:=hj;have HM0:=Ih hU.row;have HB0:=Ih hU.res;have HG:=Ih hg;have hown:UrlOwn (w.setRow X.B x.cells) (.agg x.cells) x.url:=UrlOwn.setRow (⟨X.B,x,rfl,hU.own,Ih rfl⟩:UrlOwn w (.agg x.cells) x.url) hU.res x.cells;have HO:=Ih hown;obtain⟨av,cv,hpv,_⟩:=hU.own.form;have HO1:Hid (x.cells.all (·.oneCell')=true):=Ih (by simp[Value.oneCell',MkV.cells,hpv]);clear hg hown hO hpv
  go_wp2_with (first |(refine wpList_load_row rfl 25 (.tmp 6) rfl X.M rfl 25 x.cells (0,0) _ HM0.out Tryz.underlying25 rfl urlSize ?_)|(refine wpList_store_row rfl 25 (.tmp 4) (.tmp 780) rfl X.B x.cells rfl rfl 25 zeroC HB0.out urlSize rfl HO1.out ?_))
  exact⟨_,_,_,_,0,x.cells,_,rfl,rfl,below_setRow hU.below (Nat.le_refl _),setRow_heap _ _ _ _ _ _ HB0.out,rfl,by rw[HG.out];exact⟨rfl,HO.out⟩⟩
 ·rw[len_of_size]at hj;have hge:¬((X.s.size:Int)<=j):=by omega
  have HN:=Ih (Lz.mu_less hi hI.1 hr);have HI:=Ih hI;clear hI hr
  go_wp2_with fail
  exact⟨st',buf,a,p,n,_,x,_,_,_,_,_,_,_,rfl,rfl,hU,hO,i',hi',HI.out,HN.out⟩
def Rd2 (S:List UInt8) (i:Nat) (e:Bool) (c nx:UInt8):Prop:=
 (e=true/\i=S.length/\S.drop i=[]/\c=0/\nx=0)\/(e=false/\i<S.length/\S.drop i=c::S.drop (i+1)/\nx=(S.drop (i+1)).headD 0)
theorem Rd2.rd {S:List UInt8} {i:Nat} {e:Bool} {c nx:UInt8} (h:Rd2 S i e c nx) (sp:Bool):Lz.Rd S sp i e c nx (Lz.slashQ sp c) (e||Lz.overQ sp c):=by
 rcases h with⟨h1,h2,h3,h4,h5⟩|⟨h1,h2,h3,h4⟩
 ·subst h1 h4;exact .inl ⟨rfl,h2,h3,rfl,h5,by cases sp<;>rfl,rfl⟩
 ·subst h1;exact .inr ⟨rfl,h2,h3,h4,rfl,rfl⟩
theorem rest_ok (X:RX) (st:Lz.Stt) (x:MkV) (buf:ByteArray) (a p n:Bool) (i:Nat) (e:Bool) (c nx:UInt8) (u17 u18 u19:Value) (f:Nat->Value) (w:World) (hX:X.Ok) (hU:UAt X w x) (hO:OpqW X st w x) (hI:Lz.InvM X.b X.s.data.toList X.goal ⟨buf.data.toList,a,p,n,x.url⟩ i st) (hR:Rd2 X.s.data.toList i e c nx):
  (runRest Tryz.f19.body).wp Tryz.prog (RoundPost X st i) (FR (.string X.s) X.bv undef undef (.pointer (some ⟨X.B,0,none⟩)) (.int .i64 0) (.pointer (some ⟨X.M,0,none⟩)) (.pointer (some ⟨X.N,0,none⟩)) (.string (nmB st)) (.string buf) (.bool a) (.bool p) (.bool n) (.int .i64 i) (.bool e) (.int .u8 c.toNat) (.int .u8 nx.toNat) u17 u18 u19 f) w:=by
 have cS:=Ih (Special08_any x.sch w);have hsw:Hid (∀sl ov f,sl=Lz.slashQ (Lz.specP x.sch.data.toList) c->ov=(e||Lz.overQ (Lz.specP x.sch.data.toList) c)->(runSw Tryz.f19.body).wp Tryz.prog (SwPost X st i) (FR (.string X.s) X.bv undef undef (.pointer (some ⟨X.B,0,none⟩)) (.int .i64 0) (.pointer (some ⟨X.M,0,none⟩)) (.pointer (some ⟨X.N,0,none⟩)) (.string (nmB st)) (.string buf) (.bool a) (.bool p) (.bool n) (.int .i64 i) (.bool e) (.int .u8 c.toNat) (.int .u8 nx.toNat) (.bool (Lz.specP x.sch.data.toList)) (.bool sl) (.bool ov) f) w):=Ih (fun sl ov f h1 h2=>sw_all st X x buf a p n i e c nx (Lz.specP x.sch.data.toList) sl ov f w hX hU hO hI rfl (by rw[h1,h2];exact hR.rd _));have htl:=Ih (tail_ok X st i hI.1)
 have hex:Hid (∀(K:Act->World->Prop),(∀a w,(runTail Tryz.f19.body).wp Tryz.prog (RoundPost X st i) a w->K a w)->∀e a w,SwPost X st i e a w->Exit.then K (RoundPost X st i) e a w):=Ih (by
  intro K hK e a w h
  match e,h with
  | .normal,h=>exact hK _ _ (htl.out _ _ h)
  | .exit 1,h=>exact nxt_back hI.1 h
  | .ret,h=>exact ret_er h)
 have k0:=hU.cell 0 (.string x.sch) rfl;have hc0:e=true->c=0:=by rcases hR with h|h;exact fun _=>h.2.2.2.1;intro h';rw[h']at h;exact absurd h.1 (by simp)
 clear hU hO hI hR htl;rw[show runRest Tryz.f19.body=putB (runRest Tryz.f19.body) (runSw Tryz.f19.body) (runTail Tryz.f19.body)from rfl];generalize runSw Tryz.f19.body=SW at hsw⊢;generalize runTail Tryz.f19.body=TL at hex⊢;obtain⟨sp,hsp⟩:∃sp,sp=Lz.specP x.sch.data.toList:=⟨_,rfl⟩;rw[<-hsp]at hsw cS;clear hsp;unfold FR
 conv=>arg 2;whnf
 cases e with
 | true=>
   obtain rfl:=hc0 rfl;have b0:(((0:UInt8).toNat:Int)==47)=false:=rfl;have b1:(((0:UInt8).toNat:Int)==92)=false:=rfl;clear hc0
   go_wp2_with fail
   refine cS.out.mono ?_;rintro _ _ ⟨rfl,rfl⟩
   go_wp2_with fail
   rename_i K hK;refine reframe X (nmB st) buf a p n i true 0 nx sp false true _ rfl (fun f hf=>?_);exact wp_mono (hsw.out false true f (by cases sp<;>rfl) rfl) (hex.out K hK)
 | false=>
   clear hc0;by_cases h47:c=47
   ·have b47:((c.toNat:Int)==47)=true:=bq_y h47;have H47:=Ih h47;clear h47
    go_wp2_with fail
    refine cS.out.mono ?_;rintro _ _ ⟨rfl,rfl⟩
    go_wp2_with fail
    rename_i K hK;refine reframe X (nmB st) buf a p n i false c nx sp true true _ rfl (fun f hf=>?_);exact wp_mono (hsw.out true true f (by rw[H47.out];rfl) (by rw[H47.out];rfl)) (hex.out K hK)
   ·have b47:((c.toNat:Int)==47)=false:=bq_n h47;by_cases h92:c=92
    ·have b92:((c.toNat:Int)==92)=true:=bq_y h92;have b63:((c.toNat:Int)==63)=false:=bq_n (show ¬c=63 by rw[h92];decide);have b35:((c.toNat:Int)==35)=false:=bq_n (show ¬c=35 by rw[h92];decide);have H92:=Ih h92;clear h47 h92;cases sp with
     | true=>
       go_wp2_with fail
       refine cS.out.mono ?_;rintro _ _ ⟨rfl,rfl⟩
       go_wp2_with fail
       rename_i K hK;refine reframe X (nmB st) buf a p n i false c nx true true true _ rfl (fun f hf=>?_);exact wp_mono (hsw.out true true f (by rw[H92.out];rfl) (by rw[H92.out];rfl)) (hex.out K hK)
     | false=>
       go_wp2_with fail
       refine cS.out.mono ?_;rintro _ _ ⟨rfl,rfl⟩
       go_wp2_with fail
       rename_i K hK;refine reframe X (nmB st) buf a p n i false c nx false false false _ rfl (fun f hf=>?_);exact wp_mono (hsw.out false false f (by rw[H92.out];rfl) (by rw[H92.out];rfl)) (hex.out K hK)
    ·have b92:((c.toNat:Int)==92)=false:=bq_n h92;have HSL:Hid (false=Lz.slashQ sp c):=Ih (by unfold Lz.slashQ;rw[beq_eq_false_iff_ne.2 h47,beq_eq_false_iff_ne.2 h92];simp);by_cases h63:c=63
     ·have b63:((c.toNat:Int)==63)=true:=bq_y h63;have HOV:Hid (true=(false||Lz.overQ sp c)):=Ih (by unfold Lz.overQ;rw[h63];simp);clear h47 h92 h63
      go_wp2_with fail
      refine cS.out.mono ?_;rintro _ _ ⟨rfl,rfl⟩
      go_wp2_with fail
      rename_i K hK;refine reframe X (nmB st) buf a p n i false c nx sp false true _ rfl (fun f hf=>?_);exact wp_mono (hsw.out false true f HSL.out HOV.out) (hex.out K hK)
     ·have b63:((c.toNat:Int)==63)=false:=bq_n h63;by_cases h35:c=35
      ·have b35:((c.toNat:Int)==35)=true:=bq_y h35;have HOV:Hid (true=(false||Lz.overQ sp c)):=Ih (by unfold Lz.overQ;rw[h35];simp);clear h47 h92 h63 h35
       go_wp2_with fail
       refine cS.out.mono ?_;rintro _ _ ⟨rfl,rfl⟩
       go_wp2_with fail
       rename_i K hK;refine reframe X (nmB st) buf a p n i false c nx sp false true _ rfl (fun f hf=>?_);exact wp_mono (hsw.out false true f HSL.out HOV.out) (hex.out K hK)
      ·have b35:((c.toNat:Int)==35)=false:=bq_n h35;have HOV:Hid (false=(false||Lz.overQ sp c)):=Ih (by unfold Lz.overQ;rw[<-HSL.out,beq_eq_false_iff_ne.2 h63,beq_eq_false_iff_ne.2 h35];rfl);clear h47 h92 h63 h35
       go_wp2_with fail
       refine cS.out.mono ?_;rintro _ _ ⟨rfl,rfl⟩
       go_wp2_with fail
       rename_i K hK;refine reframe X (nmB st) buf a p n i false c nx sp false false _ rfl (fun f hf=>?_);exact wp_mono (hsw.out false false f HSL.out HOV.out) (hex.out K hK)
theorem reframe3 {P:Program} {k:Code} {Q:Exit->Act->World->Prop} {w:World} (X:RX) (st buf:ByteArray) (a p n:Bool) (j:Int) (e:Bool) (c nx:UInt8) (u17 u18 u19:Value) (l:List Value) (hl:l.length=761)
  (h:∀f:Nat->Value,k.wp P Q (FR (.string X.s) X.bv undef undef (.pointer (some ⟨X.B,0,none⟩)) (.int .i64 0) (.pointer (some ⟨X.M,0,none⟩)) (.pointer (some ⟨X.N,0,none⟩)) (.string st) (.string buf) (.bool a) (.bool p) (.bool n) (.int .i64 j) (.bool e) (.int .u8 c.toNat) (.int .u8 nx.toNat) u17 u18 u19 f) w):
  k.wp P Q ⟨(Value.string X.s::X.bv::undef::undef::.pointer (some ⟨X.B,0,none⟩)::.int .i64 0::.pointer (some ⟨X.M,0,none⟩)::.pointer (some ⟨X.N,0,none⟩)::.string st::.string buf::.bool a::.bool p::.bool n::.int .i64 j::.bool e::.int .u8 c.toNat::.int .u8 nx.toNat::u17::u18::u19::l).toArray,[]⟩ w:=by
 obtain⟨f,hf⟩:=FR_of (.string X.s) X.bv undef undef (.pointer (some ⟨X.B,0,none⟩)) (.int .i64 0) (.pointer (some ⟨X.M,0,none⟩)) (.pointer (some ⟨X.N,0,none⟩)) (.string st) (.string buf) (.bool a) (.bool p) (.bool n) (.int .i64 j) (.bool e) (.int .u8 c.toNat) (.int .u8 nx.toNat) u17 u18 u19 l hl;rw[hf];exact h f
theorem in_ok (X:RX) (st:Lz.Stt) (x:MkV) (buf:ByteArray) (a p n:Bool) (i:Nat) (u14 u15 u16 u17 u18 u19:Value) (f:Nat->Value) (w:World) (hX:X.Ok) (hU:UAt X w x) (hO:OpqW X st w x) (hI:Lz.InvM X.b X.s.data.toList X.goal ⟨buf.data.toList,a,p,n,x.url⟩ i st):
  (runIn Tryz.f19.body).wp Tryz.prog (RoundPost X st i) (FR (.string X.s) X.bv undef undef (.pointer (some ⟨X.B,0,none⟩)) (.int .i64 0) (.pointer (some ⟨X.M,0,none⟩)) (.pointer (some ⟨X.N,0,none⟩)) (.string (nmB st)) (.string buf) (.bool a) (.bool p) (.bool n) (.int .i64 i) u14 u15 u16 u17 u18 u19 f) w:=by
 have hrest:Hid (∀e c nx u17 u18 u19 f,Rd2 X.s.data.toList i e c nx->(runRest Tryz.f19.body).wp Tryz.prog (RoundPost X st i) (FR (.string X.s) X.bv undef undef (.pointer (some ⟨X.B,0,none⟩)) (.int .i64 0) (.pointer (some ⟨X.M,0,none⟩)) (.pointer (some ⟨X.N,0,none⟩)) (.string (nmB st)) (.string buf) (.bool a) (.bool p) (.bool n) (.int .i64 i) (.bool e) (.int .u8 c.toNat) (.int .u8 nx.toNat) u17 u18 u19 f) w):=Ih (fun e c nx u17 u18 u19 f hR=>rest_ok X st x buf a p n i e c nx u17 u18 u19 f w hX hU hO hI hR);have hile:=hI.1;have hsz:=hX.size;have wp:IntKind.i64.wrap ((i:Int)+1)=(i:Int)+1:=IntWalk.i64_in _ (by rw[len_of_size]at hile;omega);clear hU hO hI;rw[show runIn Tryz.f19.body=putA (runIn Tryz.f19.body) (runRest Tryz.f19.body)from rfl];generalize runRest Tryz.f19.body=RT at hrest⊢;unfold FR
 conv=>arg 2;whnf
 rw[len_of_size]at hile;have hi0:(0:Int)<=(i:Int):=by omega
 rcases Nat.lt_or_ge i X.s.size with hlt|hge
 ·have hge1:¬((X.s.size:Int)<=(i:Int)):=by omega
  have hltI:(i:Int)<(X.s.size:Int):=by omega
  obtain⟨c,hc⟩:∃c,c=X.s[i]:=⟨_,rfl⟩;have hcI:(X.s[i].toNat:Int)=(c.toNat:Int):=by rw[hc]
  have hd:X.s.data.toList.drop i=c::X.s.data.toList.drop (i+1):=by
   rw[List.drop_eq_getElem_cons (by rw[len_of_size];exact hlt),hc];rfl
  rcases Nat.lt_or_ge (i+1) X.s.size with hlt2|hge2
  ·have hlt2I:(i:Int)+1<(X.s.size:Int):=by omega
   have hi1:(0:Int)<=(i:Int)+1:=by omega
   obtain⟨d,hd2⟩:∃d,d=X.s[i+1]:=⟨_,rfl⟩;have hdI:(X.s[i+1].toNat:Int)=(d.toNat:Int):=by rw[hd2]
   have HR:Hid (Rd2 X.s.data.toList i false c d):=Ih (.inr ⟨rfl,by rw[len_of_size];exact hlt,hd,by
    rw[List.drop_eq_getElem_cons (by rw[len_of_size];exact hlt2),hd2];rfl⟩)
   clear hd hd2 hc
   go_wp2_with fail
   refine reframe3 X (nmB st) buf a p n i false c d u17 u18 u19 _ rfl (fun f=>?_);exact hrest.out _ _ _ _ _ _ _ HR.out
  ·have hlt2I:¬((i:Int)+1<(X.s.size:Int)):=by omega
   have HR:Hid (Rd2 X.s.data.toList i false c 0):=Ih (.inr ⟨rfl,by rw[len_of_size];exact hlt,hd,by
    rw[List.drop_eq_nil_of_le (by rw[len_of_size];exact hge2)];rfl⟩)
   clear hd hc
   go_wp2_with fail
   refine reframe3 X (nmB st) buf a p n i false c 0 u17 u18 u19 _ rfl (fun f=>?_);exact hrest.out _ _ _ _ _ _ _ HR.out
 ·have hge1:(X.s.size:Int)<=(i:Int):=by omega
  have hlt2I:¬((i:Int)+1<(X.s.size:Int)):=by omega
  have HR:Hid (Rd2 X.s.data.toList i true 0 0):=Ih (.inl ⟨rfl,by rw[len_of_size];omega,List.drop_eq_nil_of_le (by rw[len_of_size];exact hge),rfl,rfl⟩)
  go_wp2_with fail
  refine reframe3 X (nmB st) buf a p n i true 0 0 u17 u18 u19 _ rfl (fun f=>?_);exact hrest.out _ _ _ _ _ _ _ HR.out
def RunJ (X:RX) (m:Nat) (a':Act) (w':World):Prop:=
 ∃(st:Lz.Stt) (buf:ByteArray) (a p n:Bool) (i:Nat) (x:MkV) (u14 u15 u16 u17 u18 u19:Value) (l:List Value),l.length=761/\a'=⟨(Value.string X.s::X.bv::undef::undef::.pointer (some ⟨X.B,0,none⟩)::.int .i64 0::.pointer (some ⟨X.M,0,none⟩)::.pointer (some ⟨X.N,0,none⟩)::.string (nmB st)::.string buf::.bool a::.bool p::.bool n::.int .i64 i::u14::u15::u16::u17::u18::u19::l).toArray,[]⟩/\
  UAt X w' x/\OpqW X st w' x/\Lz.InvM X.b X.s.data.toList X.goal ⟨buf.data.toList,a,p,n,x.url⟩ i st/\m=Lz.muM X.s.data.toList i st
def LoopPost (X:RX):Exit->Act->World->Prop
 | .ret,a',w'=>RetPost X a' w'
 | _,_,_=>False
theorem six_ok (X:RX) (hX:X.Ok) (st0:Lz.Stt) (i0:Nat) (a':Act) (w:World) (h:NxtR X st0 i0 a' w):
  (cd2 (runLoop Tryz.f19.body)).wp Tryz.prog (Exit.then (fun a' w'=>∃m',m'<Lz.muM X.s.data.toList i0 st0/\RunJ X m' a' w') (LoopPost X)) a' w:=by
 obtain⟨st,buf,a,p,n,i,x,u14,u15,u16,u17,u18,u19,l,hl,rfl,hU,hO,i',hi',hI,hm⟩:=h;obtain⟨f,hf⟩:=FR_of (.string X.s) X.bv undef undef (.pointer (some ⟨X.B,0,none⟩)) (.int .i64 0) (.pointer (some ⟨X.M,0,none⟩)) (.pointer (some ⟨X.N,0,none⟩)) (.string (nmB st)) (.string buf) (.bool a) (.bool p) (.bool n) (.int .i64 i) u14 u15 u16 u17 u18 u19 l hl;rw[hf];have hile:=hI.1;have hsz:=hX.size;rw[len_of_size]at hile;have wp:IntKind.i64.wrap (i+1)=(i':Int):=by rw[hi'];exact IntWalk.i64_in _ (by omega)
 have HI:=Ih hI;have HM:=Ih hm;clear hf hl hI hm hi';unfold FR
 conv=>arg 2;whnf
 go_wp2_with fail
 exact⟨_,HM.out,st,buf,a,p,n,i',x,_,_,_,_,_,_,_,rfl,rfl,hU,hO,HI.out,rfl⟩
theorem loop_ok (X:RX) (hX:X.Ok) (m:Nat) (a':Act) (w:World) (h:RunJ X m a' w):(Code.loop (runLoop Tryz.f19.body)).wp Tryz.prog (LoopPost X) a' w:=by
 refine wp_loop_ex (RunJ X) m h ?_;rintro m _ w ⟨st,buf,a,p,n,i,x,u14,u15,u16,u17,u18,u19,l,hl,rfl,hU,hO,hI,rfl⟩;obtain⟨f,hf⟩:=FR_of (.string X.s) X.bv undef undef (.pointer (some ⟨X.B,0,none⟩)) (.int .i64 0) (.pointer (some ⟨X.M,0,none⟩)) (.pointer (some ⟨X.N,0,none⟩)) (.string (nmB st)) (.string buf) (.bool a) (.bool p) (.bool n) (.int .i64 i) u14 u15 u16 u17 u18 u19 l hl;rw[hf];have hin:=in_ok X st x buf a p n i u14 u15 u16 u17 u18 u19 f w hX hU hO hI;obtain⟨r,hc,hr⟩:∃r:Code,runLoop Tryz.f19.body=.seq (.block 1 (runIn Tryz.f19.body)) r/\r=cd2 (runLoop Tryz.f19.body):=⟨_,rfl,rfl⟩;rw[hc];refine wp_seq ?_;refine wp_block ?_;refine wp_mono hin ?_;intro e a' w' h
 match e,h with
 | .normal,h=>rw[hr];exact six_ok X hX st i a' w' h
 | .exit 1,h=>rw[hr];exact six_ok X hX st i a' w' h
 | .ret,h=>exact h
end Go.Proofs.YtipndhbgehdeoaaGreatDoor
