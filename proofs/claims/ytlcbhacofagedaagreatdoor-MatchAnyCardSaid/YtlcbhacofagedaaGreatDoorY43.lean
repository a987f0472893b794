/-
  lazaretref08.run: a round, and the loop.
-/
import Derived.Test.YtlcbhacofagedaaGreatDoorY42
set_option maxHeartbeats 8000000
set_option maxRecDepth 100000
namespace Go.Proofs.YtlcbhacofagedaaGreatDoor
open Go.RowKit
def zN (X:RX) (a':Act) (w':World):Prop:=∃(a0 a1 a2 a3:Value) (m:Int) (C:Array Value) (l:List Value),l.length=775/\a'=⟨(a0::a1::a2::a3::.pointer (some ⟨X.B,0,none⟩)::.int .i64 m::l).toArray,[]⟩/\Below X.B X.w0 w'/\w'.heap[X.B]? =some (.cells C 26 (0,0))/\C.size=12/\mG X.goal w' (.agg C) m
def Q4 (X:RX) (o9:Lz.Stt) (i0:Nat) (a':Act) (w':World):Prop:=
 ∃(st:Lz.Stt) (buf:ByteArray) (a p n:Bool) (i:Int) (x:MkV) (u14 u15 u16 u17 u18 u19:Value) (l:List Value),l.length=761/\a'=⟨(Value.string X.s::.pointer none::undef::undef::.pointer (some ⟨X.B,0,none⟩)::.int .i64 0::.pointer (some ⟨X.M,0,none⟩)::.pointer (some ⟨X.N,0,none⟩)::.string (nmB st)::.string buf::.bool a::.bool p::.bool n::.int .i64 i::u14::u15::u16::u17::u18::u19::l).toArray,[]⟩/\
  UAt X w' x/\wG X st w' x/\∃i':Nat,i+1=(i':Int)/\Lz.bS none X.s.data.toList X.goal ⟨buf.data.toList,a,p,n,x.url⟩ i' st/\Lz.muM X.s.data.toList i' st<Lz.muM X.s.data.toList i0 o9
def jh (X:RX) (st:Lz.Stt) (i:Nat):Exit->Act->World->Prop
 | .normal,a',w'=>Q4 X st i a' w'
 | .exit 1,a',w'=>Q4 X st i a' w'
 | .ret,a',w'=>zN X a' w'
 | _,_,_=>False
theorem Md {X:RX} {st:Lz.Stt} {i:Nat} {a':Act} {w':World} (hi:i<=X.s.data.toList.length) (h:Nxt X st i true a' w'):Q4 X st i a' w':=by
 obtain⟨KI,buf,a,p,n,j,x,u14,u15,u16,u17,u18,u19,l,hl,rfl,hU,hO,hj,hA⟩:=h;have hj:=hj rfl;subst hj;rcases hA with⟨h1,_⟩|⟨_,i',AC,hI,hr⟩
 ·omega
 ·exact⟨KI,buf,a,p,n,_,x,u14,u15,u16,u17,u18,u19,l,hl,rfl,hU,hO,i',AC,hI,Lz.GO hi hI.1 hr⟩
theorem Uw {X:RX} {st:Lz.Stt} {i:Nat} {a':Act} {w':World} (h:qM X st i .ret a' w'):zN X a' w':=by
 obtain⟨k,a0,a1,a2,a3,l,hg,hl,rfl,hb,hr⟩:=h;refine⟨a0,a1,a2,a3,_,bC,l,hl,rfl,hb,hr,rfl,?_⟩;rw[hg];exact⟨rfl,uI _⟩
def aaW (c t:Code):Code:=match c with
 | .seq a (.seq b (.seq i1 (.seq i2 _)))=>.seq a (.seq b (.seq i1 (.seq i2 t)))
 | c=>c
def aaQ (c s t:Code):Code:=match c with
 | .seq a (.seq b (.seq d (.seq _ _)))=>.seq a (.seq b (.seq d (.seq s t)))
 | c=>c
def lx (b:Option Code):Code:=cd2 (cd2 (cd2 (cd2 (xg b))))
def tn (b:Option Code):Code:=cd2 (cd2 (cd2 (cd2 (lx b))))
theorem PG (X:RX) (st:Lz.Stt) (i:Nat) (hi:i<=X.s.data.toList.length) (a':Act) (w:World) (h:Nxt X st i false a' w):(tn Tryz.f9.body).wp Tryz.prog (jh X st i) a' w:=by
 obtain⟨KI,buf,a,p,n,j,x,u14,u15,u16,u17,u18,u19,l,hl,rfl,hU,hO,_,hA⟩:=h;obtain⟨f,hf⟩:=Gu (.string X.s) (.pointer none) undef undef (.pointer (some ⟨X.B,0,none⟩)) (.int .i64 0) (.pointer (some ⟨X.M,0,none⟩)) (.pointer (some ⟨X.N,0,none⟩)) (.string (nmB KI)) (.string buf) (.bool a) (.bool p) (.bool n) (.int .i64 j) u14 u15 u16 u17 u18 u19 l hl;rw[hf];clear hf hl;unfold FR
 conv=>arg 2;whnf
 rcases hA with⟨hj,hg⟩|⟨hj,i',AC,hI,hr⟩
 ·rw[aa]at hj;have o6:(X.s.size:Int)<=j:=hj;have HM0:=Ih hU.row;have lN:=Ih hU.res;have HG:=Ih hg;have aQ:dP (w.setRow X.B x.cells) (.agg x.cells) x.url:=dP.setRow (⟨X.B,x,rfl,hU.own,Ih rfl⟩:dP w (.agg x.cells) x.url) hU.res x.cells;have HO:=Ih aQ;obtain⟨av,cv,iM,_⟩:=hU.own.form;have HO1:Hid (x.cells.all (·.oneCell')=true):=Ih (by simp[Value.oneCell',MkV.cells,iM]);clear hg aQ hO iM
  go_wp2_with (first |(refine wpList_load_row rfl 26 (.tmp 6) rfl X.M rfl 26 x.cells (0,0) _ HM0.out Tryz.underlying26 rfl bd ?_)|(refine wpList_store_row rfl 26 (.tmp 4) (.tmp 780) rfl X.B x.cells rfl rfl 26 bC lN.out bd rfl HO1.out ?_))
  exact⟨_,_,_,_,0,x.cells,_,rfl,rfl,az hU.below (Nat.le_refl _),setRow_heap _ _ _ _ _ _ lN.out,rfl,by rw[HG.out];exact⟨rfl,HO.out⟩⟩
 ·rw[aa]at hj;have o6:¬((X.s.size:Int)<=j):=by omega
  have HN:=Ih (Lz.GO hi hI.1 hr);have HI:=Ih hI;clear hI hr
  go_wp2_with fail
  exact⟨KI,buf,a,p,n,_,x,_,_,_,_,_,_,_,rfl,rfl,hU,hO,i',AC,HI.out,HN.out⟩
def Rd2 (S:List UInt8) (i:Nat) (e:Bool) (c nx:UInt8):Prop:=
 (e=true/\i=S.length/\S.drop i=[]/\c=0/\nx=0)\/(e=false/\i<S.length/\S.drop i=c::S.drop (i+1)/\nx=(S.drop (i+1)).headD 0)
theorem Rd2.rd {S:List UInt8} {i:Nat} {e:Bool} {c nx:UInt8} (h:Rd2 S i e c nx) (sp:Bool):Lz.Rd S sp i e c nx (Lz.aG sp c) (e||Lz.dO sp c):=by
 rcases h with⟨h1,h2,h3,h4,h5⟩|⟨h1,h2,h3,h4⟩
 ·subst h1 h4;exact .inl ⟨rfl,h2,h3,rfl,h5,by cases sp<;>rfl,rfl⟩
 ·subst h1;exact .inr ⟨rfl,h2,h3,h4,rfl,rfl⟩
theorem PP (X:RX) (st:Lz.Stt) (x:MkV) (buf:ByteArray) (a p n:Bool) (i:Nat) (e:Bool) (c nx:UInt8) (u17 u18 u19:Value) (f:Nat->Value) (w:World) (hX:X.Ok) (hU:UAt X w x) (hO:wG X st w x) (hI:Lz.bS none X.s.data.toList X.goal ⟨buf.data.toList,a,p,n,x.url⟩ i st) (hR:Rd2 X.s.data.toList i e c nx):
  (lx Tryz.f9.body).wp Tryz.prog (jh X st i) (FR (.string X.s) (.pointer none) undef undef (.pointer (some ⟨X.B,0,none⟩)) (.int .i64 0) (.pointer (some ⟨X.M,0,none⟩)) (.pointer (some ⟨X.N,0,none⟩)) (.string (nmB st)) (.string buf) (.bool a) (.bool p) (.bool n) (.int .i64 i) (.bool e) (.int .u8 c.toNat) (.int .u8 nx.toNat) u17 u18 u19 f) w:=by
 have cS:=Ih (kf x.sch w);have RR:Hid (∀sl ov f,sl=Lz.aG (Lz.ae x.sch.data.toList) c->ov=(e||Lz.dO (Lz.ae x.sch.data.toList) c)->(vd Tryz.f9.body).wp Tryz.prog (qM X st i) (FR (.string X.s) (.pointer none) undef undef (.pointer (some ⟨X.B,0,none⟩)) (.int .i64 0) (.pointer (some ⟨X.M,0,none⟩)) (.pointer (some ⟨X.N,0,none⟩)) (.string (nmB st)) (.string buf) (.bool a) (.bool p) (.bool n) (.int .i64 i) (.bool e) (.int .u8 c.toNat) (.int .u8 nx.toNat) (.bool (Lz.ae x.sch.data.toList)) (.bool sl) (.bool ov) f) w):=Ih (fun sl ov f h1 h2=>Va st X x buf a p n i e c nx (Lz.ae x.sch.data.toList) sl ov f w hX hU hO hI rfl (by rw[h1,h2];exact hR.rd _));have kl:=Ih (PG X st i hI.1)
 have Pa:Hid (∀(K:Act->World->Prop),(∀a w,(tn Tryz.f9.body).wp Tryz.prog (jh X st i) a w->K a w)->∀e a w,qM X st i e a w->Exit.then K (jh X st i) e a w):=Ih (by
  intro K hK e a w h
  match e,h with
  | .normal,h=>exact hK _ _ (kl.out _ _ h)
  | .exit 1,h=>exact Md hI.1 h
  | .ret,h=>exact Uw h)
 have k0:=hU.cell 0 (.string x.sch) rfl;have np:e=true->c=0:=by rcases hR with h|h;exact fun _=>h.2.2.2.1;intro h';rw[h']at h;exact absurd h.1 (by simp)
 clear hU hO hI hR kl;rw[show lx Tryz.f9.body=aaQ (lx Tryz.f9.body) (vd Tryz.f9.body) (tn Tryz.f9.body)from rfl];generalize vd Tryz.f9.body=SW at RR⊢;generalize tn Tryz.f9.body=TL at Pa⊢;obtain⟨sp,d5⟩:∃sp,sp=Lz.ae x.sch.data.toList:=⟨_,rfl⟩;rw[<-d5]at RR cS;clear d5;unfold FR
 conv=>arg 2;whnf
 cases e with
 | true=>
   obtain rfl:=np rfl;have b0:(((0:UInt8).toNat:Int)==47)=false:=rfl;have b1:(((0:UInt8).toNat:Int)==92)=false:=rfl;clear np
   go_wp2_with fail
   refine cS.out.mono ?_;rintro _ _ ⟨rfl,rfl⟩
   go_wp2_with fail
   rename_i K hK;refine di X (nmB st) buf a p n i true 0 nx sp false true _ rfl (fun f hf=>?_);exact wp_mono (RR.out false true f (by cases sp<;>rfl) rfl) (Pa.out K hK)
 | false=>
   clear np;by_cases lK:c=47
   ·have SA:((c.toNat:Int)==47)=true:=ij lK;have KC:=Ih lK;clear lK
    go_wp2_with fail
    refine cS.out.mono ?_;rintro _ _ ⟨rfl,rfl⟩
    go_wp2_with fail
    rename_i K hK;refine di X (nmB st) buf a p n i false c nx sp true true _ rfl (fun f hf=>?_);exact wp_mono (RR.out true true f (by rw[KC.out];rfl) (by rw[KC.out];rfl)) (Pa.out K hK)
   ·have SA:((c.toNat:Int)==47)=false:=gi lK;by_cases DF:c=92
    ·have b92:((c.toNat:Int)==92)=true:=ij DF;have TA:((c.toNat:Int)==63)=false:=gi (show ¬c=63 by rw[DF];decide);have OV:((c.toNat:Int)==35)=false:=gi (show ¬c=35 by rw[DF];decide);have H92:=Ih DF;clear lK DF;cases sp with
     | true=>
       go_wp2_with fail
       refine cS.out.mono ?_;rintro _ _ ⟨rfl,rfl⟩
       go_wp2_with fail
       rename_i K hK;refine di X (nmB st) buf a p n i false c nx true true true _ rfl (fun f hf=>?_);exact wp_mono (RR.out true true f (by rw[H92.out];rfl) (by rw[H92.out];rfl)) (Pa.out K hK)
     | false=>
       go_wp2_with fail
       refine cS.out.mono ?_;rintro _ _ ⟨rfl,rfl⟩
       go_wp2_with fail
       rename_i K hK;refine di X (nmB st) buf a p n i false c nx false false false _ rfl (fun f hf=>?_);exact wp_mono (RR.out false false f (by rw[H92.out];rfl) (by rw[H92.out];rfl)) (Pa.out K hK)
    ·have b92:((c.toNat:Int)==92)=false:=gi DF;have HSL:Hid (false=Lz.aG sp c):=Ih (by unfold Lz.aG;rw[beq_eq_false_iff_ne.2 lK,beq_eq_false_iff_ne.2 DF];simp);by_cases kV:c=63
     ·have TA:((c.toNat:Int)==63)=true:=ij kV;have Zf:Hid (true=(false||Lz.dO sp c)):=Ih (by unfold Lz.dO;rw[kV];simp);clear lK DF kV
      go_wp2_with fail
      refine cS.out.mono ?_;rintro _ _ ⟨rfl,rfl⟩
      go_wp2_with fail
      rename_i K hK;refine di X (nmB st) buf a p n i false c nx sp false true _ rfl (fun f hf=>?_);exact wp_mono (RR.out false true f HSL.out Zf.out) (Pa.out K hK)
     ·have TA:((c.toNat:Int)==63)=false:=gi kV;by_cases km:c=35
      ·have OV:((c.toNat:Int)==35)=true:=ij km;have Zf:Hid (true=(false||Lz.dO sp c)):=Ih (by unfold Lz.dO;rw[km];simp);clear lK DF kV km
       go_wp2_with fail
       refine cS.out.mono ?_;rintro _ _ ⟨rfl,rfl⟩
       go_wp2_with fail
       rename_i K hK;refine di X (nmB st) buf a p n i false c nx sp false true _ rfl (fun f hf=>?_);exact wp_mono (RR.out false true f HSL.out Zf.out) (Pa.out K hK)
      ·have OV:((c.toNat:Int)==35)=false:=gi km;have Zf:Hid (false=(false||Lz.dO sp c)):=Ih (by unfold Lz.dO;rw[<-HSL.out,beq_eq_false_iff_ne.2 kV,beq_eq_false_iff_ne.2 km];rfl);clear lK DF kV km
       go_wp2_with fail
       refine cS.out.mono ?_;rintro _ _ ⟨rfl,rfl⟩
       go_wp2_with fail
       rename_i K hK;refine di X (nmB st) buf a p n i false c nx sp false false _ rfl (fun f hf=>?_);exact wp_mono (RR.out false false f HSL.out Zf.out) (Pa.out K hK)
theorem vm {P:Program} {k:Code} {Q:Exit->Act->World->Prop} {w:World} (X:RX) (st buf:ByteArray) (a p n:Bool) (j:Int) (e:Bool) (c nx:UInt8) (u17 u18 u19:Value) (l:List Value) (hl:l.length=761)
  (h:∀f:Nat->Value,k.wp P Q (FR (.string X.s) (.pointer none) undef undef (.pointer (some ⟨X.B,0,none⟩)) (.int .i64 0) (.pointer (some ⟨X.M,0,none⟩)) (.pointer (some ⟨X.N,0,none⟩)) (.string st) (.string buf) (.bool a) (.bool p) (.bool n) (.int .i64 j) (.bool e) (.int .u8 c.toNat) (.int .u8 nx.toNat) u17 u18 u19 f) w):
  k.wp P Q ⟨(Value.string X.s::.pointer none::undef::undef::.pointer (some ⟨X.B,0,none⟩)::.int .i64 0::.pointer (some ⟨X.M,0,none⟩)::.pointer (some ⟨X.N,0,none⟩)::.string st::.string buf::.bool a::.bool p::.bool n::.int .i64 j::.bool e::.int .u8 c.toNat::.int .u8 nx.toNat::u17::u18::u19::l).toArray,[]⟩ w:=by
 obtain⟨f,hf⟩:=Gu (.string X.s) (.pointer none) undef undef (.pointer (some ⟨X.B,0,none⟩)) (.int .i64 0) (.pointer (some ⟨X.M,0,none⟩)) (.pointer (some ⟨X.N,0,none⟩)) (.string st) (.string buf) (.bool a) (.bool p) (.bool n) (.int .i64 j) (.bool e) (.int .u8 c.toNat) (.int .u8 nx.toNat) u17 u18 u19 l hl;rw[hf];exact h f
theorem Yd (X:RX) (st:Lz.Stt) (x:MkV) (buf:ByteArray) (a p n:Bool) (i:Nat) (u14 u15 u16 u17 u18 u19:Value) (f:Nat->Value) (w:World) (hX:X.Ok) (hU:UAt X w x) (hO:wG X st w x) (hI:Lz.bS none X.s.data.toList X.goal ⟨buf.data.toList,a,p,n,x.url⟩ i st):
  (xg Tryz.f9.body).wp Tryz.prog (jh X st i) (FR (.string X.s) (.pointer none) undef undef (.pointer (some ⟨X.B,0,none⟩)) (.int .i64 0) (.pointer (some ⟨X.M,0,none⟩)) (.pointer (some ⟨X.N,0,none⟩)) (.string (nmB st)) (.string buf) (.bool a) (.bool p) (.bool n) (.int .i64 i) u14 u15 u16 u17 u18 u19 f) w:=by
 have ni:Hid (∀e c nx u17 u18 u19 f,Rd2 X.s.data.toList i e c nx->(lx Tryz.f9.body).wp Tryz.prog (jh X st i) (FR (.string X.s) (.pointer none) undef undef (.pointer (some ⟨X.B,0,none⟩)) (.int .i64 0) (.pointer (some ⟨X.M,0,none⟩)) (.pointer (some ⟨X.N,0,none⟩)) (.string (nmB st)) (.string buf) (.bool a) (.bool p) (.bool n) (.int .i64 i) (.bool e) (.int .u8 c.toNat) (.int .u8 nx.toNat) u17 u18 u19 f) w):=Ih (fun e c nx u17 u18 u19 f hR=>PP X st x buf a p n i e c nx u17 u18 u19 f w hX hU hO hI hR);have ff:=hI.1;have dV:=hX.size;have wp:IntKind.i64.wrap ((i:Int)+1)=(i:Int)+1:=IntWalk.i64_in _ (by rw[aa]at ff;omega);clear hU hO hI;rw[show xg Tryz.f9.body=aaW (xg Tryz.f9.body) (lx Tryz.f9.body)from rfl];generalize lx Tryz.f9.body=RT at ni⊢;unfold FR
 conv=>arg 2;whnf
 rw[aa]at ff;have nP:(0:Int)<=(i:Int):=by omega
 rcases Nat.lt_or_ge i X.s.size with aN|o6
 ·have abk:¬((X.s.size:Int)<=(i:Int)):=by omega
  have dH:(i:Int)<(X.s.size:Int):=by omega
  obtain⟨c,hc⟩:∃c,c=X.s[i]:=⟨_,rfl⟩;have yI:(X.s[i].toNat:Int)=(c.toNat:Int):=by rw[hc]
  have hd:X.s.data.toList.drop i=c::X.s.data.toList.drop (i+1):=by
   rw[List.drop_eq_getElem_cons (by rw[aa];exact aN),hc];rfl
  rcases Nat.lt_or_ge (i+1) X.s.size with tc|hge2
  ·have Tt:(i:Int)+1<(X.s.size:Int):=by omega
   have Lj:(0:Int)<=(i:Int)+1:=by omega
   obtain⟨d,It⟩:∃d,d=X.s[i+1]:=⟨_,rfl⟩;have Xl:(X.s[i+1].toNat:Int)=(d.toNat:Int):=by rw[It]
   have HR:Hid (Rd2 X.s.data.toList i false c d):=Ih (.inr ⟨rfl,by rw[aa];exact aN,hd,by
    rw[List.drop_eq_getElem_cons (by rw[aa];exact tc),It];rfl⟩)
   clear hd It hc
   go_wp2_with fail
   refine vm X (nmB st) buf a p n i false c d u17 u18 u19 _ rfl (fun f=>?_);exact ni.out _ _ _ _ _ _ _ HR.out
  ·have Tt:¬((i:Int)+1<(X.s.size:Int)):=by omega
   have HR:Hid (Rd2 X.s.data.toList i false c 0):=Ih (.inr ⟨rfl,by rw[aa];exact aN,hd,by
    rw[List.drop_eq_nil_of_le (by rw[aa];exact hge2)];rfl⟩)
   clear hd hc
   go_wp2_with fail
   refine vm X (nmB st) buf a p n i false c 0 u17 u18 u19 _ rfl (fun f=>?_);exact ni.out _ _ _ _ _ _ _ HR.out
 ·have abk:(X.s.size:Int)<=(i:Int):=by omega
  have Tt:¬((i:Int)+1<(X.s.size:Int)):=by omega
  have HR:Hid (Rd2 X.s.data.toList i true 0 0):=Ih (.inl ⟨rfl,by rw[aa];omega,List.drop_eq_nil_of_le (by rw[aa];exact o6),rfl,rfl⟩)
  go_wp2_with fail
  refine vm X (nmB st) buf a p n i true 0 0 u17 u18 u19 _ rfl (fun f=>?_);exact ni.out _ _ _ _ _ _ _ HR.out
def Vo (X:RX) (m:Nat) (a':Act) (w':World):Prop:=
 ∃(st:Lz.Stt) (buf:ByteArray) (a p n:Bool) (i:Nat) (x:MkV) (u14 u15 u16 u17 u18 u19:Value) (l:List Value),l.length=761/\a'=⟨(Value.string X.s::.pointer none::undef::undef::.pointer (some ⟨X.B,0,none⟩)::.int .i64 0::.pointer (some ⟨X.M,0,none⟩)::.pointer (some ⟨X.N,0,none⟩)::.string (nmB st)::.string buf::.bool a::.bool p::.bool n::.int .i64 i::u14::u15::u16::u17::u18::u19::l).toArray,[]⟩/\
  UAt X w' x/\wG X st w' x/\Lz.bS none X.s.data.toList X.goal ⟨buf.data.toList,a,p,n,x.url⟩ i st/\m=Lz.muM X.s.data.toList i st
def B2 (X:RX):Exit->Act->World->Prop
 | .ret,a',w'=>zN X a' w'
 | _,_,_=>False
theorem oP (X:RX) (hX:X.Ok) (o9:Lz.Stt) (i0:Nat) (a':Act) (w:World) (h:Q4 X o9 i0 a' w):
  (cd2 (qp Tryz.f9.body)).wp Tryz.prog (Exit.then (fun a' w'=>∃m',m'<Lz.muM X.s.data.toList i0 o9/\Vo X m' a' w') (B2 X)) a' w:=by
 obtain⟨st,buf,a,p,n,i,x,u14,u15,u16,u17,u18,u19,l,hl,rfl,hU,hO,i',AC,hI,hm⟩:=h;obtain⟨f,hf⟩:=Gu (.string X.s) (.pointer none) undef undef (.pointer (some ⟨X.B,0,none⟩)) (.int .i64 0) (.pointer (some ⟨X.M,0,none⟩)) (.pointer (some ⟨X.N,0,none⟩)) (.string (nmB st)) (.string buf) (.bool a) (.bool p) (.bool n) (.int .i64 i) u14 u15 u16 u17 u18 u19 l hl;rw[hf];have ff:=hI.1;have dV:=hX.size;rw[aa]at ff;have wp:IntKind.i64.wrap (i+1)=(i':Int):=by rw[AC];exact IntWalk.i64_in _ (by omega)
 have HI:=Ih hI;have HM:=Ih hm;clear hf hl hI hm AC;unfold FR
 conv=>arg 2;whnf
 go_wp2_with fail
 exact⟨_,HM.out,st,buf,a,p,n,i',x,_,_,_,_,_,_,_,rfl,rfl,hU,hO,HI.out,rfl⟩
theorem Rv (X:RX) (hX:X.Ok) (m:Nat) (a':Act) (w:World) (h:Vo X m a' w):(Code.loop (qp Tryz.f9.body)).wp Tryz.prog (B2 X) a' w:=by
 refine va (Vo X) m h ?_;rintro m _ w ⟨st,buf,a,p,n,i,x,u14,u15,u16,u17,u18,u19,l,hl,rfl,hU,hO,hI,rfl⟩;obtain⟨f,hf⟩:=Gu (.string X.s) (.pointer none) undef undef (.pointer (some ⟨X.B,0,none⟩)) (.int .i64 0) (.pointer (some ⟨X.M,0,none⟩)) (.pointer (some ⟨X.N,0,none⟩)) (.string (nmB st)) (.string buf) (.bool a) (.bool p) (.bool n) (.int .i64 i) u14 u15 u16 u17 u18 u19 l hl;rw[hf];have yG:=Yd X st x buf a p n i u14 u15 u16 u17 u18 u19 f w hX hU hO hI;obtain⟨r,hc,hr⟩:∃r:Code,qp Tryz.f9.body=.seq (.block 1 (xg Tryz.f9.body)) r/\r=cd2 (qp Tryz.f9.body):=⟨_,rfl,rfl⟩;rw[hc];refine wp_seq ?_;refine wp_block ?_;refine wp_mono yG ?_;intro e a' w' h
 match e,h with
 | .normal,h=>rw[hr];exact oP X hX st i a' w' h
 | .exit 1,h=>rw[hr];exact oP X hX st i a' w' h
 | .ret,h=>exact h
end Go.Proofs.YtlcbhacofagedaaGreatDoor
