/-
  From what a row hands over to what the walks ask, and back: arguments of several shapes. No condition.
-/
import Derived.Test.YtjhccadmmnjpeaaGreatDoorT11
import Derived.Test.YtjhccadmmnjpeaaGreatDoorT14
import Derived.Test.YtjhccadmmnjpeaaGreatDoorT13
import Derived.Lib.AppendZeros
import Derived.ProofKit
import Derived.OpenShut
import Derived.Deep.DeepWitnessRowRef
set_option maxHeartbeats 8000000
set_option maxRecDepth 100000
namespace Go.Proofs.YtjhccadmmnjpeaaGreatDoor
open Go.RowKit
def SrcB.cells (x:SrcB):Array Value:= #[.int .i64 x.kind,.string x.text,.int .i64 x.bits,.string x.scheme,.string x.host,.bool x.wild,.int .i64 x.port,.string x.path]
def SrcRow (w:World) (T:Nat) (x:SrcB):Prop:=w.heap[T]? =some (.cells x.cells 47 (0,0))
theorem SrcRow.cell {w:World} {T:Nat} {x:SrcB} (h:SrcRow w T x) (k:Nat):w.cell? ⟨T,k,none⟩=x.cells[k]? :=cell_of_row w T k _ _ _ h
theorem SrcRow.free {w:World} {T:Nat} {x:SrcB} (h:SrcRow w T x) (k:Nat):w.frozen? ⟨T,k,none⟩=false:=by
 unfold SrcRow at h;simp only[World.frozen?,h]
 simp
theorem SrcRow.lt {w:World} {T:Nat} {x:SrcB} (h:SrcRow w T x):T<w.heap.size:=(Array.getElem?_eq_some_iff.1 h).1
theorem SrcRow.below {w w':World} {T:Nat} {x:SrcB} (h:SrcRow w T x) (hb:Below w.heap.size w w'):SrcRow w' T x:=by
 unfold SrcRow;rw[hb.block T h.lt];exact h
theorem SrcRow.store {w:World} {T:Nat} {x y:SrcB} (h:SrcRow w T x) (k:Nat) (v:Value) (hy:x.cells.setIfInBounds k v=y.cells):SrcRow (w.setCell ⟨T,k,none⟩ v) T y:=by
 unfold SrcRow;rw[setCell_eq_setRow w T k x.cells _ _ v h,<-hy];exact setRow_heap _ _ _ _ _ _ h
def RInto (o:Option SrcB) (x:SrcB) (n T:Nat) (w:World) (e:Ending) (w':World):Prop:=
 ∃v,e=.returned v/\Hid (match o with|some y=>v=.nilIface/\SrcRow w' T y|none=>Bady w' n v/\SrcRow w' T x)/\Below T w w'
theorem eq_star {s:ByteArray} (b:Bool) (h:decide (s.data.toList=[42])=b):(s.toList==[42])=b:=by
 rw[Lib.toList_data,<-h];by_cases h2:s.data.toList=[42]<;>simp[h2]
def hostO (s:ByteArray) (x:SrcB):Option SrcB:=
 if s.data.toList=[42]then some {x with wild:=true}
 else if Lz.namedB (Lib.trimPrefix s.data.toList [42,46])then some {x with wild:=Lib.hasPrefix s.data.toList [42,46],host:=⟨(Lz.low (Lib.trimPrefix s.data.toList [42,46])).toArray⟩} else none
theorem host_any (s:ByteArray) (hs:s.size<=1048576) (T:Nat) (x:SrcB) (w:World) (hE:Env w) (hT:SrcRow w T x):
  Calls Tryz.prog 186 #[.string s,.pointer (some ⟨T,0,none⟩)] w (RInto (hostO s x) x 0 T w):=by
 have h5:=hT.cell 5;have h4:=hT.cell 4;have f5:=hT.free 5;have f4:=hT.free 4;simp only[SrcB.cells]at h4 h5
 simp at h4 h5
 go_enter Tryz.func186,Tryz.ntmps186
 go_wp2_with fail
 refine(CutPrefix_c s _ w).mono ?_;rintro e w1 ⟨v,rfl,hv,rfl⟩;by_cases hstar:s.data.toList=[42]
 ·have hst:=eq_star true (decide_eq_true hstar);have HR:Hid (hostO s x=some {x with wild:=true}):=by show hostO s x=_;unfold hostO;rw[if_pos hstar]
  clear hstar
  go_wp2
  go_ret;exact⟨_,rfl,by rw[HR.out];exact⟨rfl,hT.store 5 _ (by rfl)⟩,(Below.refl T w).setCell (p:=⟨T,5,none⟩) (Nat.le_refl _) _⟩
 ·have hst:=eq_star false (decide_eq_false hstar);have Hs:=Ih hstar;clear hstar;have hvl:v.data.toList=Lib.trimPrefix s.data.toList [42,46]:=hv.out
  have hvz:v.size<=s.size:=by
   rw[<-len_of_size v,hvl,<-len_of_size s];unfold Lib.trimPrefix;split
   ·simp
   ·exact Nat.le_refl _
  have Hvl:=Ih hvl;clear hvl hv;have cN:=Ih (named_any v (by omega) w hE);generalize hnb:Lz.namedB v.data.toList=nb at cN;have Hnb:=Ih hnb;clear hnb;cases nb
  ·have HR:Hid (hostO s x=none):=by
    show hostO s x=_;unfold hostO;rw[if_neg Hs.out,<-Hvl.out,Hnb.out];rfl
   go_wp2_with fail
   refine(cN.out).mono ?_;rintro e w2 ⟨rfl,hb2⟩
   go_wp2
   go_ret;exact⟨_,rfl,by rw[HR.out];exact⟨⟨_,rfl⟩,hT.below hb2⟩,hb2.mono (Nat.le_of_lt hT.lt)⟩
  ·go_wp2_with fail
   refine(cN.out).mono ?_;rintro e w2 ⟨rfl,hb2⟩
   go_wp2_with fail
   refine(Lower_c v (by omega) w2).mono ?_;rintro e w3 ⟨u,rfl,hu,hb3⟩;have hx3:=below_call hb2 hb3;have hT3:=hT.below hx3
   have HR:Hid (hostO s x=some {x with wild:=Lib.hasPrefix s.data.toList [42,46],host:=u}):=by
    show hostO s x=_;unfold hostO;rw[if_neg Hs.out,<-Hvl.out,Hnb.out,if_pos rfl];have hue:(⟨(Lz.low v.data.toList).toArray⟩:ByteArray)=u:=by rw[<-hu.out]
    rw[hue]
   clear h4 h5 f4 f5;have h5:=hT3.cell 5;have h4:=hT3.cell 4;have f5:=hT3.free 5;have f4:=hT3.free 4;simp only[SrcB.cells]at h4 h5
   simp at h4 h5
   go_wp2
   go_ret;have hrow:=(hT3.store (y:={x with wild:=Lib.hasPrefix s.data.toList [42,46]}) 5 (.bool (Lib.hasPrefix s.data.toList [42,46])) (by rfl)).store (y:={x with wild:=Lib.hasPrefix s.data.toList [42,46],host:=u}) 4 (.string u) (by rfl);exact⟨_,rfl,by rw[HR.out];exact⟨rfl,hrow⟩,((hx3.mono (Nat.le_of_lt hT.lt)).setCell (p:=⟨T,5,none⟩) (Nat.le_refl _) _).setCell (p:=⟨T,4,none⟩) (Nat.le_refl _) _⟩
def portO (s:ByteArray) (x:SrcB):Option SrcB:=(Lz.portP s.data.toList).map fun n=>{x with port:=n}
theorem Atoi_c (s:ByteArray) (hs:s.size<=1048576) (w:World) (hE:Env w):
  Calls Tryz.prog 231 #[.string s] w fun e w'=>∃n v,e=.returned (.tuple #[.int .i64 n,v])/\Hid ((Lib.atoiAll s.data.toList=.ok n/\v=.nilIface)\/((∀m,Lib.atoiAll s.data.toList≠.ok m)/\∃t x,v=.iface t x))/\Below w.heap.size w w':=by
 cases h:Lib.atoiAll s.data.toList with
 | ok n=>
   refine(Tryz.strconv_Atoi_ok s (by omega) n h w).mono ?_;rintro e w' ⟨he,hw⟩;refine⟨n,.nilIface,he,Or.inl ⟨rfl,rfl⟩,?_⟩;rcases hw with rfl|⟨t,rfl⟩
   ·exact Below.refl _ _
   ·exact Lib.bytesWorld_below _ _ _
 | range=>
   obtain⟨te,pe,hv⟩:=hE.rng;refine(Tryz.strconv_Atoi_range s (by omega) h _ w hv (Or.inr ⟨te,pe,rfl⟩)).mono ?_;rintro e w' ⟨N,he,_,_,hb⟩;exact⟨_,_,he,Or.inr ⟨(fun m hm=>by cases hm),_,_,rfl⟩,hb⟩
 | _=>
   obtain⟨te,pe,hv⟩:=hE.syn;refine(Tryz.strconv_Atoi_syntax s (by omega) (h.trans rfl) _ w hv (Or.inr ⟨te,pe,rfl⟩)).mono ?_;rintro e w' ⟨N,he,_,_,hb⟩;exact⟨_,_,he,Or.inr ⟨(fun m hm=>by cases hm),_,_,rfl⟩,hb⟩
theorem port_any (s:ByteArray) (hs:s.size<=1048576) (T:Nat) (x:SrcB) (w:World) (hE:Env w) (hT:SrcRow w T x):
  Calls Tryz.prog 188 #[.string s,.pointer (some ⟨T,0,none⟩)] w (RInto (portO s x) x 1 T w):=by
 by_cases hstar:s.data.toList=[42]
 ·have hst:=eq_star true (decide_eq_true hstar);have HR:Hid (portO s x=some {x with port:= -2}):=by show portO s x=_;unfold portO Lz.portP;rw[if_pos hstar];rfl
  clear hstar;have h6:=hT.cell 6;have f6:=hT.free 6;simp only[SrcB.cells]at h6
  simp at h6
  go_enter Tryz.func188,Tryz.ntmps188
  go_wp2
  go_ret;exact⟨_,rfl,by rw[HR.out];exact⟨rfl,hT.store 6 _ (by rfl)⟩,(Below.refl T w).setCell (p:=⟨T,6,none⟩) (Nat.le_refl _) _⟩
 ·have hst:=eq_star false (decide_eq_false hstar);have Hs:=Ih hstar;clear hstar;have cA:=Ih (all_any pred_Digit s (by omega));generalize hdb:Lz.allB Lz.isDigit s.data.toList=db at cA;have Hdb:=Ih hdb;clear hdb;go_enter Tryz.func188,Tryz.ntmps188
  go_wp2_with fail
  refine(Atoi_c s hs w hE).mono ?_;rintro e w1 ⟨n,v,rfl,hv,hb1⟩;have hT1:=hT.below hb1;rcases hv.out with⟨ha,rfl⟩|⟨ha,t,z,rfl⟩
  ·have Ha:=Ih ha;clear ha hv;by_cases hgood:db=true/\n<=65535
   ·obtain⟨rfl,hn⟩:=hgood
    have HR:Hid (portO s x=some {x with port:=n}):=by
     show portO s x=_;unfold portO Lz.portP;rw[if_neg Hs.out,Ha.out];simp only[Hdb.out,decide_eq_true hn,Bool.and_self,if_true];rfl
    have h6:=hT1.cell 6;have f6:=hT1.free 6;simp only[SrcB.cells]at h6
    simp at h6
    go_wp2_with (go_at_call 184;refine(cA.out _).mono ?_;rintro e w2 ⟨rfl,rfl⟩)
    go_ret;exact⟨_,rfl,by rw[HR.out];exact⟨rfl,hT1.store 6 _ (by rfl)⟩,(hb1.mono (Nat.le_of_lt hT.lt)).setCell (p:=⟨T,6,none⟩) (Nat.le_refl _) _⟩
   ·have HR:Hid (portO s x=none):=by
     show portO s x=_;unfold portO Lz.portP;rw[if_neg Hs.out,Ha.out]
     have:(db&&decide (n<=65535))=false:=by
      cases db
      ·rfl
      ·have:¬n<=65535:=fun h=>hgood ⟨rfl,h⟩
       simp[this]
     simp only[Hdb.out,this];rfl
    have hcase:(db=false)\/(db=true/\65535<n):=by
     cases db
     ·exact Or.inl rfl
     ·exact Or.inr ⟨rfl,by have:¬n<=65535:=fun h=>hgood ⟨rfl,h⟩;omega⟩
    clear hgood;rcases hcase with rfl|⟨rfl,hn⟩
    all_goals
     go_wp2_with (first |(go_at_call 184;refine(cA.out _).mono ?_;rintro e w2 ⟨rfl,rfl⟩)|(go_at_call 187;refine(Join_en w1.heap.size 103 (.string ⟨#[112,111,114,116]⟩) _ (by simp) (by simp)).mono ?_;rintro e w3 ⟨p,g,len,cap,rfl,q1,q2,q3,q4,q5,q6,hb3⟩))
     go_ret;have hx3:=(((Below.refl _ w1).alloc (Nat.le_refl _) _).trans (hb3.mono (by simp)));exact⟨_,rfl,by rw[HR.out];exact⟨Or.inr ⟨p,g,len,cap,_,rfl,q1,q2,q3,q4,q5,q6,_,rfl⟩,hT1.below hx3⟩,(below_call hb1 hx3).mono (Nat.le_of_lt hT.lt)⟩
  ·have HR:Hid (portO s x=none):=by
    show portO s x=_;unfold portO Lz.portP;rw[if_neg Hs.out];cases h:Lib.atoiAll s.data.toList with
    | ok m=>exact absurd h (ha m)
    | _=>rfl
   clear ha hv
   go_wp2_with (first |(go_at_call 184;refine(cA.out _).mono ?_;rintro e w2 ⟨rfl,rfl⟩)|(go_at_call 187;refine(Join_ee w1.heap.size 103 (.string ⟨#[112,111,114,116]⟩) t z _ (by simp) (by simp)).mono ?_;rintro e w3 ⟨p,g,len,cap,rfl,q1,q2,q3,q4,q5,q6,hb3⟩))
   go_ret;have hx3:=(((Below.refl _ w1).alloc (Nat.le_refl _) _).trans (hb3.mono (by simp)));exact⟨_,rfl,by rw[HR.out];exact⟨Or.inr ⟨p,g,len,cap,_,rfl,q1,q2,q3,q4,q5,q6,_,rfl⟩,hT1.below hx3⟩,(below_call hb1 hx3).mono (Nat.le_of_lt hT.lt)⟩
def srcZero:SrcB:=⟨3,⟨#[]⟩,0,⟨#[]⟩,⟨#[]⟩,false,-1,⟨#[]⟩⟩
def ErrSt (w:World) (n:Nat) (good:Bool) (v:Value):Prop:=(good=true/\v=.nilIface)\/(good=false/\Bady w n v)
theorem Bady.below' {w w':World} (hb:Below w.heap.size w w'):∀{n:Nat} {v:Value},Bady w n v->Bady w' n v
 | 0,_,h=>h
 | n+1,v,h=>by
   rcases h with h|⟨p,g,len,cap,v0,h1,h2,h3,h4,h5,h6,h7,h8⟩
   ·exact Or.inl (Bady.below' hb h)
   ·exact Or.inr ⟨p,g,len,cap,v0,h1,Nat.lt_of_lt_of_le h2 hb.size,Nat.lt_of_lt_of_le h3 hb.size,by rw[hb.cell (p:=⟨p,0,none⟩) h2];exact h4,h5,h6,by rw[hb.cell (p:=⟨g,0,none⟩) h3];exact h7,Bady.below' hb h8⟩
theorem ErrSt.below {w w':World} {n:Nat} {g:Bool} {v:Value} (h:ErrSt w n g v) (hb:Below w.heap.size w w'):ErrSt w' n g v:=by
 rcases h with h|⟨h1,h2⟩
 ·exact Or.inl h
 ·exact Or.inr ⟨h1,h2.below' hb⟩
theorem ErrSt.succ {w:World} {n:Nat} {g:Bool} {v:Value} (h:ErrSt w n g v):ErrSt w (n+1) g v:=by
 rcases h with h|⟨h1,h2⟩
 ·exact Or.inl h
 ·exact Or.inr ⟨h1,Or.inl h2⟩
theorem Bady.iface' {w:World}:∀{n:Nat} {v:Value},Bady w n v->∃t x,v=.iface t x
 | 0,_,⟨b,h⟩=>⟨_,_,h⟩
 | n+1,v,h=>by
   rcases h with h|⟨p,g,len,cap,v0,h1,_⟩
   ·exact Bady.iface' h
   ·exact⟨_,_,h1⟩
theorem ErrSt.form {w:World} {n:Nat} {g:Bool} {v:Value} (h:ErrSt w n g v):v=.nilIface\/∃t x,v=.iface t x:=by
 rcases h with⟨_,h⟩|⟨_,h⟩
 ·exact Or.inl h
 ·exact Or.inr h.iface'
def RSt (n:Nat) (good:Bool) (w:World) (e:Ending) (w':World):Prop:=∃v,e=.returned v/\Hid (ErrSt w' n good v)/\Below w.heap.size w w'
theorem rjoin_st {n:Nat} {v0:Value} {w:World} {e:Ending} {w':World} (h0:Bady w n v0) (h:RJoin v0 w e w'):RSt (n+1) false w e w':=by
 obtain⟨p,g,len,cap,he,q1,q2,q3,q4,q5,q6,hb⟩:=h;exact⟨_,he,Or.inr ⟨rfl,Or.inr ⟨p,g,len,cap,v0,rfl,q1,q2,q3,q4,q5,q6,h0.below' hb⟩⟩,hb⟩
theorem Join_st (g n:Nat) (g0 g1:Bool) (c0 c1:Value) (w:World) (s0:ErrSt w n g0 c0) (s1:ErrSt w n g1 c1) (h0:w.cell? ⟨g,0,none⟩=some c0) (h1:w.cell? ⟨g,1,none⟩=some c1):
  Calls Tryz.prog 187 #[.slice (some ⟨g,0,none⟩) 2 2] w (RSt (n+1) (g0&&g1) w):=by
 rcases s0 with⟨rfl,rfl⟩|⟨rfl,b0⟩
 ·rcases s1 with⟨rfl,rfl⟩|⟨rfl,b1⟩
  ·exact(Join_nn g w h0 h1).mono fun e w' ⟨he,hw⟩=>⟨_,he,Or.inl ⟨rfl,rfl⟩,by rw[hw];exact Below.refl _ _⟩
  ·obtain⟨t,x,rfl⟩:=b1.iface';exact(Join_ne g t x w h0 h1).mono fun e w' h=>rjoin_st b1 h
 ·obtain⟨t,x,rfl⟩:=b0.iface';rcases s1 with⟨rfl,rfl⟩|⟨rfl,b1⟩
  ·exact(Join_en g t x w h0 h1).mono fun e w' h=>rjoin_st b0 h
  ·obtain⟨t1,x1,rfl⟩:=b1.iface';exact(Join_ee g t x t1 x1 w h0 h1).mono fun e w' h=>rjoin_st b0 h
def RIntoSt (o:Option SrcB) (x:SrcB) (n T:Nat) (w:World) (e:Ending) (w':World):Prop:=
 ∃v y,e=.returned v/\Hid (ErrSt w' n o.isSome v)/\SrcRow w' T y/\Hid ((∀z,o=some z->z=y)/\y.path=x.path)/\Below T w w'
theorem into_st {o:Option SrcB} {x:SrcB} {n T:Nat} {w:World} {e:Ending} {w':World} (hp:∀z,o=some z->z.path=x.path) (h:RInto o x n T w e w'):RIntoSt o x n T w e w':=by
 obtain⟨v,he,hv,hb⟩:=h;have hv:=hv.out;cases o with
 | none=>
   obtain⟨h1,h2⟩:=hv;exact⟨v,x,he,Or.inr ⟨rfl,h1⟩,h2,⟨fun z hz=>(by cases hz),rfl⟩,hb⟩
 | some y=>
   obtain⟨h1,h2⟩:=hv;exact⟨v,y,he,Or.inl ⟨rfl,h1⟩,h2,⟨fun z hz=>(Option.some.inj hz).symm,hp y rfl⟩,hb⟩
theorem hostO_path {s:ByteArray} {x z:SrcB} (h:hostO s x=some z):z.path=x.path:=by
 unfold hostO at h;split at h
 ·rw[<-Option.some.inj h]
 ·split at h
  ·rw[<-Option.some.inj h]
  ·cases h
theorem portO_path {s:ByteArray} {x z:SrcB} (h:portO s x=some z):z.path=x.path:=by
 unfold portO at h;obtain⟨n,_,hn⟩:=Option.map_eq_some_iff.1 h;rw[<-hn]
theorem host_st (s:ByteArray) (hs:s.size<=1048576) (T:Nat) (x:SrcB) (w:World) (hE:Env w) (hT:SrcRow w T x):
 Calls Tryz.prog 186 #[.string s,.pointer (some ⟨T,0,none⟩)] w (RIntoSt (hostO s x) x 0 T w):=(host_any s hs T x w hE hT).mono fun _ _ h=>into_st (fun _ hz=>hostO_path hz) h
theorem port_st (s:ByteArray) (hs:s.size<=1048576) (T:Nat) (x:SrcB) (w:World) (hE:Env w) (hT:SrcRow w T x):
 Calls Tryz.prog 188 #[.string s,.pointer (some ⟨T,0,none⟩)] w (RIntoSt (portO s x) x 1 T w):=(port_any s hs T x w hE hT).mono fun _ _ h=>into_st (fun _ hz=>portO_path hz) h
theorem hosted_spec (nm nu r:ByteArray) (y y1 y2:SrcB) (ok2 gp:Bool) (hy:y={srcZero with scheme:=y.scheme,path:=y.path}) (hnm:nm.data.toList=(Lib.cut r.data.toList [58]).1) (hnu:nu.data.toList=(Lib.cut r.data.toList [58]).2.1)
  (hok:(Lib.cut r.data.toList [58]).2.2=ok2) (h1:∀z,hostO nm y=some z->z=y1) (h2:ok2=true->∀z,portO nu y1=some z->z=y2) (h3:ok2=false->y2=y1) (hgp:(y.path.data.toList.isEmpty||Lz.allB Lz.isSeen y.path.data.toList)=gp):
  Lz.hostedQ y.scheme.data.toList y.path.data.toList r.data.toList=if((hostO nm y).isSome&&(if ok2 then(portO nu y1).isSome else true))&&gp then some y2.src else none:=by
 have hh:Lz.hostP nm.data.toList=(hostO nm y).map (fun z=>(z.wild,z.host.data.toList)):=by
  unfold Lz.hostP hostO;split
  ·rw[hy];rfl
  ·split<;>rfl
 unfold Lz.hostedQ;rw[<-hnm,<-hnu,hh,hok,hgp];cases ho:hostO nm y with
 | none=>rfl
 | some z=>
   have hz:=h1 z ho;subst hz
   have hz2:z={y with wild:=z.wild,host:=z.host}:=by
    unfold hostO at ho;split at ho
    ·rw[<-Option.some.inj ho]
    ·split at ho
     ·rw[<-Option.some.inj ho]
     ·cases ho
   cases ok2 with
   | false=>
     have h32:=h3 rfl;subst h32;simp only[Option.map_some,Option.isSome_some,Bool.true_and,Bool.false_eq_true,if_false];cases gp
     ·rfl
     ·simp only[if_true];rw[hz2,hy];rfl
   | true=>
     simp only[Option.map_some,Option.isSome_some,Bool.true_and,if_true]
     have hp:Lz.portP nu.data.toList=(portO nu z).map (·.port):=by
      unfold portO;rw[Option.map_map]
      simp[Function.comp_def]
     rw[hp];cases hpo:portO nu z with
     | none=>rfl
     | some q=>
       have hq:=h2 rfl q hpo;subst hq
       have hq2:q={z with port:=q.port}:=by
        unfold portO at hpo;obtain⟨n,_,hn⟩:=Option.map_eq_some_iff.1 hpo;rw[<-hn]
       simp only[Option.map_some,Option.isSome_some,Bool.true_and];cases gp
       ·rfl
       ·simp only[if_true];rw[hq2,hz2,hy];rfl
theorem extract_tail (s:ByteArray) (k:Nat):(s.extract k s.size).data.toList=s.data.toList.drop k:=by
 rw[Lib.extract_data,List.take_of_length_le (by rw[List.length_drop,len_of_size];exact Nat.le_refl _)]
theorem extract_head (s:ByteArray) (k:Nat):(s.extract 0 k).data.toList=s.data.toList.take k:=by
 rw[Lib.extract_data];rfl
theorem Bady.setRow {w:World} {R:Nat} {cs:Array Value} {t:TypeId} {fr:Nat×Nat} (hr:w.heap[R]? =some (.cells cs t fr)) (h0:cs[0]? =some (.int .i64 0)) (cells:Array Value):∀{n:Nat} {v:Value},Bady w n v->Bady (w.setRow R cells) n v
 | 0,_,h=>h
 | n+1,v,h=>by
   have hc:w.cell? ⟨R,0,none⟩=some (.int .i64 0):=by rw[cell_of_row w R 0 _ _ _ hr];exact h0
   rcases h with h|⟨p,g,len,cap,v0,h1,h2,h3,h4,h5,h6,h7,h8⟩
   ·exact Or.inl (Bady.setRow hr h0 cells h)
   ·have hpR:p≠R:=by rintro rfl;rw[hc]at h4;cases h4
    have hgR:g≠R:=by
     rintro rfl;rw[hc]at h7;obtain⟨t,x,hx⟩:=h8.iface';rw[hx]at h7;cases h7
    exact Or.inr ⟨p,g,len,cap,v0,h1,by rw[setRow_size];exact h2,by rw[setRow_size];exact h3,by rw[cell_setRow_other _ _ _ _ hpR];exact h4,h5,h6,by rw[cell_setRow_other _ _ _ _ hgR];exact h7,Bady.setRow hr h0 cells h8⟩
theorem rsrc_fin {o:Option Lz.Src} {gg:Bool} {y:SrcB} {v:Value} {w:World} {n R:Nat} {cs:Array Value} {t:TypeId} {fr:Nat×Nat} (hr:w.heap[R]? =some (.cells cs t fr)) (h0:cs[0]? =some (.int .i64 0)) (cells:Array Value)
  (ho:o=if gg then some y.src else none) (hv:ErrSt w n gg v):Hid (SrcRes o y (w.setRow R cells) n v):=by
 rcases hv with⟨rfl,rfl⟩|⟨rfl,hb⟩
 ·subst ho;exact⟨rfl,rfl⟩
 ·subst ho;exact hb.setRow hr h0 cells
theorem ErrSt.zero {w w':World} {g:Bool} {v:Value} (h:ErrSt w 0 g v):ErrSt w' 0 g v:=h
theorem cut_sizes (s p:List UInt8):(Lib.cut s p).1.length<=s.length/\(Lib.cut s p).2.1.length<=s.length:=by
 unfold Lib.cut;split
 ·exact⟨by simp[List.length_take];omega,by simp[List.length_drop]⟩
 ·simp
theorem IndexByte_47 (s:ByteArray) (w:World):Calls Tryz.prog 111 #[.string s,.int .u8 47] w fun e w'=>e=.returned (.int .i64 (Lib.indexByte s.data.toList 47))/\w=w':=IndexByte_c s 47 w
theorem indexByte_lt (l:List UInt8) (c:UInt8):Lib.indexByte l c<l.length:=by
 induction l with
 | nil=>unfold Lib.indexByte;simp
 | cons b l ih=>
   unfold Lib.indexByte;split
   ·simp
   ·split
    ·simp
     omega
    ·simp
     omega
theorem alloc_two {w w1:World} {o1 o2:Obj} (hb:Below ((w.alloc o1).alloc o2).heap.size ((w.alloc o1).alloc o2) w1):w1.heap[w.heap.size]? =some o1/\w1.heap[w.heap.size+1]? =some o2:=by
 have h1:((w.heap.push o1).push o2)[w.heap.size]? =some o1:=by
  rw[Array.getElem?_push,if_neg (by simp),Array.getElem?_push,if_pos rfl]
 have h2:((w.heap.push o1).push o2)[w.heap.size+1]? =some o2:=by
  rw[Array.getElem?_push,if_pos (by simp)]
 exact⟨(hb.block _ (by simp;omega)).trans h1,(hb.block _ (by simp)).trans h2⟩
structure HRows (w wx:World) (x:SrcB):Prop where
 row:∃cs:Array Value,cs.size=8/\cs[0]? =some (.int .i64 0)/\wx.heap[w.heap.size]? =some (.cells cs 47 (0,0))
 src:SrcRow wx (w.heap.size+1) x
 below:Below w.heap.size w wx
theorem HRows.call {w w1 w2:World} {x:SrcB} (h:HRows w w1 x) (hb:Below w1.heap.size w1 w2):HRows w w2 x:=by
 obtain⟨⟨cs,h1,h2,h3⟩,h4,h5⟩:=h;exact⟨⟨cs,h1,h2,by rw[hb.block _ (Array.getElem?_eq_some_iff.1 h3).1];exact h3⟩,h4.below hb,below_call h5 hb⟩
theorem HRows.into {w w1 w2:World} {x y:SrcB} (h:HRows w w1 x) (hb:Below (w.heap.size+1) w1 w2) (hy:SrcRow w2 (w.heap.size+1) y):HRows w w2 y:=by
 obtain⟨⟨cs,h1,h2,h3⟩,h4,h5⟩:=h;exact⟨⟨cs,h1,h2,by rw[hb.block _ (by omega)];exact h3⟩,hy,h5.trans (hb.mono (by omega))⟩
theorem HRows.drew {w w1:World} {x:SrcB} (h:HRows w w1 x):HRows w w1.drew x:=⟨h.row,h.src,h.below.drew⟩
def HRel1 (s:ByteArray) (w:World) (v:Value) (wx:World):Prop:=
 ∃(rest:ByteArray) (x:SrcB),v=.string rest/\rest.size<=1048576/\HRows w wx x/\Hid (Lz.hostedS s.data.toList=Lz.hostedP x.scheme.data.toList rest.data.toList/\x={srcZero with scheme:=x.scheme})
def HRel2 (s:ByteArray) (w:World) (v:Value) (wx:World):Prop:=
 ∃(r:ByteArray) (y:SrcB),v=.string r/\r.size<=1048576/\y.path.size<=1048576/\HRows w wx y/\Hid (Lz.hostedS s.data.toList=Lz.hostedQ y.scheme.data.toList y.path.data.toList r.data.toList/\y={srcZero with scheme:=y.scheme,path:=y.path})
def HRel3 (s:ByteArray) (w:World) (v:Value) (wx:World):Prop:=
 ∃(gg:Bool) (y:SrcB),Hid (ErrSt wx 2 gg v)/\y.path.size<=1048576/\HRows w wx y/\Hid (∀gp,(y.path.data.toList.isEmpty||Lz.allB Lz.isSeen y.path.data.toList)=gp->Lz.hostedS s.data.toList=if gg&&gp then some y.src else none)
def HRel4 (s:ByteArray) (w:World) (v:Value) (wx:World):Prop:=
 ∃(gg:Bool) (y:SrcB),Hid (ErrSt wx 3 gg v)/\HRows w wx y/\Hid (Lz.hostedS s.data.toList=if gg then some y.src else none)
theorem hosted_any (s:ByteArray) (hs:s.size<=1048576) (w:World) (hE:Env w):Calls Tryz.prog 124 #[.string s] w (RSrc (Lz.hostedS s.data.toList) 3 w):=by
 go_enter Tryz.func124,Tryz.ntmps124
 go_wp2_with fail
 have hx0:Below w.heap.size w ((w.alloc (.cells #[.int .i64 0,.string ⟨#[]⟩,.int .i64 0,.string ⟨#[]⟩,.string ⟨#[]⟩,.bool false,.int .i64 0,.string ⟨#[]⟩] 47)).alloc (.cells srcZero.cells 47)):=((Below.refl _ w).alloc (Nat.le_refl _) _).alloc (by simp) _;refine(Cut_c s ⟨#[58,47,47]⟩ (by omega) _ (hE.below hx0)).mono ?_;rintro e w1 ⟨hd,rest0,rfl,hhd,hrest,hb1⟩;obtain⟨hR0,hT1⟩:=alloc_two hb1;have hx1:=below_call hx0 hb1;have hH1:HRows w w1 srcZero:=⟨⟨_,rfl,rfl,hR0⟩,hT1,hx1⟩;clear hb1 hx0 hR0 hT1 hx1;generalize hok:(Lib.cut s.data.toList (ByteArray.data ⟨#[58,47,47]⟩).toList).2.2=ok;have Hok:=Ih hok;clear hok;have hz:=cut_sizes s.data.toList [58,47,47];have hhz:hd.size<=1048576:=by rw[<-len_of_size hd,hhd.out];exact Nat.le_trans hz.1 (by rw[len_of_size];exact hs)
 have hrz:rest0.size<=1048576:=by rw[<-len_of_size rest0,hrest.out];exact Nat.le_trans hz.2 (by rw[len_of_size];exact hs)
 clear hz;have cS:=Ih (scheme_any hd (by omega) w1);generalize hsb:Lz.schemeB hd.data.toList=sb at cS;have Hsb:=Ih hsb;clear hsb
 go_upto_if 20 with fail
 go_cut [0] (fun s0 wx=>HRel1 s w s0 wx)
 case first=>
  cases ok
  ·go_wp2_with fail
   go_meet;refine⟨s,srcZero,rfl,hs,hH1,?_,rfl⟩;unfold Lz.hostedS;have h1:(Lib.cut s.data.toList [58,47,47]).2.2=false:=Hok.out;simp only[h1];rfl
  ·cases sb
   ·obtain⟨⟨cs,hcsz,hcs0,hR1⟩,hT1,hx1⟩:=hH1
    go_wp2_with (first |(go_at_call 122;refine(cS.out).mono ?_;rintro e w2 ⟨rfl,rfl⟩)|(refine store_src rfl _ _ rfl w.heap.size rfl rfl _ hR1 hcsz ?_))
    refine bodyPost_ret (results_src rfl _ _ w.heap.size ⟨0,⟨#[]⟩,0,⟨#[]⟩,⟨#[]⟩,false,0,⟨#[]⟩⟩ (0,0) rfl (setRow_heap _ _ _ _ _ _ hR1)) rfl ⟨_,_,rfl,?_,below_setRow hx1 (Nat.le_refl _) _⟩
    have hn:Lz.hostedS s.data.toList=none:=by
     unfold Lz.hostedS;have h1:(Lib.cut s.data.toList [58,47,47]).2.2=true:=Hok.out;have h2:Lz.schemeB (Lib.cut s.data.toList [58,47,47]).1=false:=by rw[<-Hsb.out,hhd.out]
     simp only[h1,h2,if_true];rfl
    rw[hn];exact Or.inl (Or.inl (Or.inl ⟨_,rfl⟩))
   ·go_wp2_with fail
    refine(cS.out).mono ?_;rintro e w2 ⟨rfl,rfl⟩
    go_wp2_with fail
    refine(Lower_c hd (by omega) _).mono ?_;rintro e w2 ⟨u,rfl,hu,hb2⟩;have hH2:=hH1.call hb2;have hT2:=hH2.src;have c3:=hT2.cell 3;have f3:=hT2.free 3;simp only[SrcB.cells]at c3
    simp at c3
    have hT3:=hT2.store (y:={srcZero with scheme:=u}) 3 (.string u) (by rfl);have hH3:=hH2.into ((Below.refl (w.heap.size+1) w2).setCell (p:=⟨w.heap.size+1,3,none⟩) (Nat.le_refl _) (.string u)) hT3;clear hT2 hT3 hb2
    go_wp2_with fail
    go_meet;refine⟨rest0,{srcZero with scheme:=u},rfl,hrz,hH3,?_,rfl⟩;unfold Lz.hostedS;have h1:(Lib.cut s.data.toList [58,47,47]).2.2=true:=Hok.out;have h2:Lz.schemeB (Lib.cut s.data.toList [58,47,47]).1=true:=by rw[<-Hsb.out,hhd.out]
    simp only[h1,h2,if_true];show _=Lz.hostedP u.data.toList _;rw[hu.out,hhd.out,hrest.out]
 case rest=>
  clear hH1 cS Hsb Hok hhd hrest hhz hrz;obtain⟨rest,x,rfl,hrz,hH1,HS⟩:=hcut
  go_wp2_with fail
  have cI:=Ih (IndexByte_47 rest wc);have hil:=indexByte_lt rest.data.toList 47;rw[len_of_size]at hil;generalize hi:Lib.indexByte rest.data.toList 47=i at cI hil;have Hi:=Ih hi;clear hi;refine(cI.out).mono ?_;rintro e w2 ⟨rfl,rfl⟩
  go_upto_if 33 with fail
  go_cut [0] (fun s0 wx=>HRel2 s w s0 wx)
  case first=>
   by_cases hi0:0<=i
   ·obtain⟨k,rfl⟩:∃k:Nat,i=k:=⟨i.toNat,by omega⟩;have hT1:=hH1.src;have c7:=hT1.cell 7;have f7:=hT1.free 7;simp only[SrcB.cells]at c7
    simp at c7
    have hT2:=hT1.store (y:={x with path:=rest.extract k rest.size}) 7 (.string (rest.extract k rest.size)) (by rfl);have hH2:=(hH1.into ((Below.refl (w.heap.size+1) wc).setCell (p:=⟨w.heap.size+1,7,none⟩) (Nat.le_refl _) (.string (rest.extract k rest.size))) hT2).drew;clear hT2 hT1
    go_wp2
    go_region
    go_wp2_with fail
    go_meet;refine⟨rest.extract 0 k,{x with path:=rest.extract k rest.size},rfl,Nat.le_trans (extract_size_le _ _ _) hrz,Nat.le_trans (extract_size_le _ _ _) hrz,hH2,?_,by rw[HS.out.2]⟩;rw[HS.out.1];unfold Lz.hostedP;rw[Hi.out,if_pos (by omega)];show _=Lz.hostedQ x.scheme.data.toList (rest.extract k rest.size).data.toList _;rw[extract_tail,extract_head];rfl
   ·have hi1:i<0:=by omega
    go_wp2_with fail
    go_meet;have h2:=HS.out.2;refine⟨rest,x,rfl,hrz,by rw[h2];exact Nat.zero_le _,hH1,?_,by rw[h2]⟩;rw[HS.out.1];unfold Lz.hostedP;rw[Hi.out,if_neg (by omega)];rw[h2];rfl
  case rest=>
   clear hH1 Hi cI hil HS hrz;obtain⟨r,y,rfl,hqz,hyz,hH2,HQ⟩:=hcut;rename_i w3
   go_wp2_with fail
   refine(Cut_c r ⟨#[58]⟩ (by omega) _ (hE.below hH2.below)).mono ?_;rintro e w4 ⟨nm,nu,rfl,hnm,hnu,hb4⟩;generalize hok:(Lib.cut r.data.toList (ByteArray.data ⟨#[58]⟩).toList).2.2=ok2;have Hok2:=Ih hok;clear hok;have hz:=cut_sizes r.data.toList [58];have hnmz:nm.size<=1048576:=by rw[<-len_of_size nm,hnm.out];exact Nat.le_trans hz.1 (by rw[len_of_size];exact hqz)
   have hnuz:nu.size<=1048576:=by rw[<-len_of_size nu,hnu.out];exact Nat.le_trans hz.2 (by rw[len_of_size];exact hqz)
   clear hz;have hH4:=hH2.call hb4;clear hH2 hb4
   go_wp2_with fail
   refine(host_st nm hnmz (w.heap.size+1) y w4 (hE.below hH4.below) hH4.src).mono ?_;rintro e w5 ⟨v1,y1,rfl,hv1,hT5,hy1,hb5⟩;have hH5:=hH4.into hb5 hT5;clear hH4 hb5 hT5
   go_upto_if 49 with fail
   go_cut [12] (fun s12 wx=>HRel3 s w s12 wx)
   case first=>
    cases ok2
    ·go_wp2_with fail
     go_meet;refine⟨(hostO nm y).isSome,y1,hv1.out.succ.succ,by rw[hy1.out.2];exact hyz,hH5,fun gp hgp=>?_⟩;rw[HQ.out.1,hosted_spec nm nu r y y1 y1 false gp HQ.out.2 hnm.out hnu.out Hok2.out hy1.out.1 (fun h=>by cases h) (fun _=>rfl) (by rw[<-hy1.out.2];exact hgp)];simp only[Bool.false_eq_true,if_false,Bool.and_true]
    ·go_wp2_with fail
     refine(port_st nu hnuz (w.heap.size+1) y1 w5 (hE.below hH5.below) hH5.src).mono ?_;rintro e w6 ⟨v2,y2,rfl,hv2,hT6,hy2,hb6⟩;have hH6:=hH5.into hb6 hT6;have f1:=hv1.out.form;have f2:=hv2.out.form;clear hH5 hb6 hT6;rcases f1 with rfl|⟨t1,q1,rfl⟩<;>rcases f2 with rfl|⟨t2,q2,rfl⟩
     all_goals
      go_wp2_with fail
      refine(Join_st w6.heap.size 1 _ _ _ _ _ hv1.out.zero.succ (hv2.out.below ((Below.refl _ w6).alloc (Nat.le_refl _) _)) (by simp) (by simp)).mono ?_;rintro e w7 ⟨v3,rfl,hv3,hb7⟩;have hH7:=hH6.call (((Below.refl _ w6).alloc (Nat.le_refl _) _).trans (hb7.mono (by simp)));clear hb7
      go_wp2_with fail
      go_meet;refine⟨_,y2,hv3.out,by rw[hy2.out.2,hy1.out.2];exact hyz,hH7,fun gp hgp=>?_⟩;rw[HQ.out.1];exact hosted_spec nm nu r y y1 y2 true gp HQ.out.2 hnm.out hnu.out Hok2.out hy1.out.1 (fun _=>hy2.out.1) (fun h=>by cases h) (by rw[<-hy1.out.2,<-hy2.out.2];exact hgp)
   case rest=>
    clear hH5 hv1 hy1 Hok2 hnm hnu hnmz hnuz HQ hyz hqz;obtain⟨gg,y2,hv3,hy2p,hH7,HF⟩:=hcut;have hT7:=hH7.src;have c7:=hT7.cell 7;have f7:=hT7.free 7;simp only[SrcB.cells]at c7
    simp at c7
    have cP:=Ih (fun w=>all_any pred_seen y2.path (by omega) w);generalize hsn:Lz.allB Lz.isSeen y2.path.data.toList=sn at cP;have Hsn:=Ih hsn;clear hsn hT7;obtain⟨gp,hgp⟩:∃gp,gp=(y2.path.data.toList.isEmpty||sn):=⟨_,rfl⟩;have Hgp:=Ih hgp;clear hgp
    go_upto_region 14 with fail
    go_cut [63] (fun s63 wx=>s63=.bool (!gp)/\HRows w wx y2/\Hid (ErrSt wx 2 gg u12))
    case first=>
     by_cases hp0:0<y2.path.size
     ·have he:=isEmpty_of_pos hp0;have hge:gp=sn:=by rw[Hgp.out];rw[Lib.toList_data]at he;rw[he];rfl
      subst hge
      go_wp2_with (go_at_call 184;refine(cP.out _).mono ?_;rintro e w8 ⟨rfl,rfl⟩)
      go_meet;exact⟨rfl,hH7,hv3⟩
     ·have he:=isEmpty_of_size (show y2.path.size=0 by omega);have hge:gp=true:=by rw[Hgp.out];rw[Lib.toList_data]at he;rw[he];rfl
      subst hge
      go_wp2_with (go_at_call 184;refine(cP.out _).mono ?_;rintro e w8 ⟨rfl,rfl⟩)
      go_meet;exact⟨rfl,hH7,hv3⟩
    case rest=>
     clear hH7 hv3 c7 f7 cP;obtain⟨rfl,hH7,hv3⟩:=hcut
     go_upto_if 63 with fail
     go_cut [12] (fun s12 wx=>HRel4 s w s12 wx)
     case first=>
      have HG:=HF.out gp (by rw[Hsn.out,Hgp.out]);have HG:=Ih HG;clear HF;cases gp
      ·have f3:=hv3.out.form;rcases f3 with rfl|⟨t3,q3,rfl⟩
       all_goals
        go_wp2_with fail
        refine(Join_st _ 2 _ false _ (.iface 103 (.string ⟨#[112,97,116,104]⟩)) _ (hv3.out.below ((Below.refl _ _).alloc (Nat.le_refl _) _)) (Or.inr ⟨rfl,Or.inl (Or.inl ⟨_,rfl⟩)⟩) (by simp) (by simp)).mono ?_;rintro e w8 ⟨v4,rfl,hv4,hb8⟩;have hH8:=hH7.call (((Below.refl _ _).alloc (Nat.le_refl _) _).trans (hb8.mono (by simp)));clear hb8 hH7 hv3
        go_wp2_with fail
        go_meet;exact⟨_,y2,hv4.out,hH8,HG.out⟩
      ·go_wp2_with fail
       go_meet;exact⟨gg,y2,hv3.out.succ,hH7,by have h:=HG.out;rw[Bool.and_true]at h;exact h⟩
     case rest=>
      clear hH7 hv3 HF Hgp Hsn;obtain⟨gg,y3,hv4,hH9,HG⟩:=hcut;obtain⟨⟨cs,hcsz,hcs0,hR9⟩,hT9,hx9⟩:=hH9;have Hcs0:=Ih hcs0;have Hv:=Ih hv4;clear hcs0;have hTl:_=some (Obj.cells #[.int .i64 y3.kind,.string y3.text,.int .i64 y3.bits,.string y3.scheme,.string y3.host,.bool y3.wild,.int .i64 y3.port,.string y3.path] 47 (0,0)):=hT9;clear hT9
      go_wp2_with (first |(refine wpList_load_row rfl 47 _ rfl (w.heap.size+1) rfl 47 _ (0,0) _ hTl Tryz.underlying47 rfl srcSize ?_)|(refine store_src rfl _ _ rfl w.heap.size rfl rfl _ hR9 hcsz ?_))
      refine bodyPost_ret (results_src (u:=3) rfl _ _ w.heap.size y3 (0,0) rfl (setRow_heap _ _ _ _ _ _ hR9)) rfl ⟨y3,_,rfl,rsrc_fin hR9 Hcs0.out _ HG.out hv4.out,below_setRow hx9 (Nat.le_refl _) _⟩
theorem Bady.up {w:World} {n m:Nat} {v:Value} (hnm:n<=m) (h:Bady w n v):Bady w m v:=by
 induction hnm with
 | refl=>exact h
 | step _ ih=>exact Or.inl ih
theorem SrcRes.up {o:Option Lz.Src} {x:SrcB} {w:World} {n m:Nat} {v:Value} (hnm:n<=m) (h:SrcRes o x w n v):SrcRes o x w m v:=by
 cases o with
 | none=>exact Bady.up hnm h
 | some y=>exact h
theorem SrcRes.setRow {o:Option Lz.Src} {x:SrcB} {w:World} {R:Nat} {cs:Array Value} {t:TypeId} {fr:Nat×Nat} {n:Nat} {v:Value} (hr:w.heap[R]? =some (.cells cs t fr)) (h0:cs[0]? =some (.int .i64 0)) (cells:Array Value) (h:SrcRes o x w n v):SrcRes o x (w.setRow R cells) n v:=by
 cases o with
 | none=>exact Bady.setRow hr h0 cells h
 | some y=>exact h
theorem trimSuffix_le (s p:List UInt8):(Lib.trimSuffix s p).length<=s.length:=by
 unfold Lib.trimSuffix;split
 ·simp[List.length_take]
 ·exact Nat.le_refl _
theorem alloc_row_one {w w1:World} {o:Obj} (hb:Below (w.alloc o).heap.size (w.alloc o) w1):w1.heap[w.heap.size]? =some o:=by
 rw[hb.block w.heap.size (by simp)];show(w.heap.push _)[w.heap.size]? =_
 simp
theorem head_at {s:ByteArray} (h:0<s.size):s.data.toList.head? =some s[0]:=by
 have:=get_of_lt h;cases hl:s.data.toList with
 | nil=>rw[hl]at this;cases this
 | cons a r=>rw[hl]at this;simpa using this
theorem last_at {s:ByteArray} (h:0<s.size):s.data.toList.getLast? =some (s[s.size-1]'(by omega)):=by
 rw[List.getLast?_eq_getElem?,len_of_size];exact get_of_lt (by omega)
theorem byte_beq (a b:UInt8):((a.toNat:Int)==(b.toNat:Int))=(a==b):=by
 by_cases h:a=b
 ·subst h;simp
 ·have:¬(a.toNat:Int)=b.toNat:=fun e=>h (UInt8.toNat_inj.1 (by omega));rw[beq_eq_false_iff_ne.2 this,beq_eq_false_iff_ne.2 h]
theorem dropLast_extract (s:ByteArray):(s.extract 1 (s.size-1)).data.toList=(s.data.toList.drop 1).dropLast:=by
 rw[Lib.extract_data,List.dropLast_eq_take,List.length_drop,len_of_size]
theorem parse_any (s:ByteArray) (hs:s.size<=1048576) (w:World) (hE:Env w):Calls Tryz.prog 78 #[.string s] w (RSrc (Lz.parseS s.data.toList) 3 w):=by
 obtain⟨q,hq⟩:∃q,q=Lz.quotes s.data.toList:=⟨_,rfl⟩;have Hq:=Ih hq;clear hq;have hx0:Below w.heap.size w (w.alloc (.cells #[.int .i64 0,.string ⟨#[]⟩,.int .i64 0,.string ⟨#[]⟩,.string ⟨#[]⟩,.bool false,.int .i64 0,.string ⟨#[]⟩] 47)):=(Below.refl _ w).alloc (Nat.le_refl _) _;have hE0:=hE.below hx0;go_enter Tryz.func78,Tryz.ntmps78
 go_upto_region 1 with fail
 go_cut [21] (fun s21 wx=>s21=.bool q/\wx=(w.alloc (.cells #[.int .i64 0,.string ⟨#[]⟩,.int .i64 0,.string ⟨#[]⟩,.string ⟨#[]⟩,.bool false,.int .i64 0,.string ⟨#[]⟩] 47)))
 case first=>
  by_cases h1:1<s.size
  ·have h0:0<s.size:=by omega
   have hl:s.size-1<s.size:=by omega
   have g0:=head_at h0;have g1:=last_at h0
   have hqe:q=((s[0].toNat:Int)==39&&((s[s.size-1].toNat:Int)==39)):=by
    rw[Hq.out];unfold Lz.quotes;rw[g0,g1,len_of_size,decide_eq_true h1];have e1:=byte_beq s[0] 39;have e2:=byte_beq (s[s.size-1]'(by omega)) 39;simp only[Bool.true_and];rw[show((39:UInt8).toNat:Int)=39 from rfl]at e1 e2;rw[e1,e2];rfl
   have Hqe:=Ih hqe;clear hqe g0 g1;generalize ha:((s[0].toNat:Int)==39)=a at Hqe;generalize hb:((s[s.size-1].toNat:Int)==39)=b at Hqe;cases a<;>cases b
   all_goals
    go_wp2_with fail
    all_goals
     go_meet;exact⟨by have h:=Hqe.out;subst h;rfl,rfl⟩
  ·have hqe:q=false:=by
    rw[Hq.out];unfold Lz.quotes;rw[len_of_size,decide_eq_false h1];rfl
   have Hqe:=Ih hqe;clear hqe;have h1':(s.size:Int)<=1:=by omega
   clear h1
   go_wp2_with fail
   all_goals
    go_meet;exact⟨by have h:=Hqe.out;subst h;rfl,rfl⟩
 case rest=>
  obtain⟨rfl,rfl⟩:=hcut;cases q
  ·go_wp2_with fail
   refine(CutSuffix_c s ⟨#[58]⟩ (by omega) _).mono ?_;rintro e w1 ⟨v,rfl,hv,rfl⟩
   have hvz:v.size<=1048576:=by
    rw[<-len_of_size v,hv.out];exact Nat.le_trans (trimSuffix_le _ _) (by rw[len_of_size];exact hs)
   have cS:=Ih (fun w=>scheme_any v (by omega) w);generalize hsf:Lib.hasSuffix s.data.toList (ByteArray.data ⟨#[58]⟩).toList=sf;have Hsf:=Ih hsf;clear hsf;generalize hsb:Lz.schemeB v.data.toList=sb at cS;have Hsb:=Ih hsb;clear hsb;by_cases hyes:sf=true/\sb=true
   ·obtain⟨rfl,rfl⟩:=hyes
    go_wp2_with fail
    refine(cS.out _).mono ?_;rintro e w1 ⟨rfl,rfl⟩
    go_wp2_with fail
    refine(Lower_c v (by omega) _).mono ?_;rintro e w1 ⟨u,rfl,hu,hb1⟩;have hR1:=alloc_row_one hb1;have hx1:=below_call hx0 hb1
    go_wp2_with (refine store_src rfl _ _ rfl w.heap.size rfl rfl _ hR1 rfl ?_)
    refine bodyPost_ret (results_src (u:=3) rfl _ _ w.heap.size ⟨2,⟨#[]⟩,0,u,⟨#[]⟩,false,-1,⟨#[]⟩⟩ (0,0) rfl (setRow_heap _ _ _ _ _ _ hR1)) rfl ⟨_,_,rfl,?_,below_setRow hx1 (Nat.le_refl _) _⟩
    have hp:Lz.parseS s.data.toList=some (Lz.schemeS (Lz.low v.data.toList)):=by
     unfold Lz.parseS;have h1:Lib.hasSuffix s.data.toList [58]=true:=Hsf.out;have h2:v.data.toList=Lib.trimSuffix s.data.toList [58]:=hv.out;rw[<-Hq.out,<-h2,h1,Hsb.out];rfl
    rw[hp];exact⟨by unfold SrcB.src;rw[hu.out];rfl,rfl⟩
   ·have hp:Lz.parseS s.data.toList=Lz.hostedS s.data.toList:=by
     unfold Lz.parseS;have h2:v.data.toList=Lib.trimSuffix s.data.toList [58]:=hv.out;have h1:Lib.hasSuffix s.data.toList [58]=sf:=Hsf.out;rw[<-Hq.out,<-h2,h1,Hsb.out];cases sf<;>cases sb<;>simp_all
    have Hp:=Ih hp;have hcase:(sf=false)\/(sf=true/\sb=false):=by cases sf<;>cases sb<;>simp_all
    clear hyes hp;rcases hcase with rfl|⟨rfl,rfl⟩
    all_goals
     go_wp2_with (first |(go_at_call 122;refine(cS.out _).mono ?_;rintro e w1 ⟨rfl,rfl⟩)|(go_at_call 124;fail))
     refine(hosted_any s hs _ hE0).mono ?_;rintro e w1 ⟨x,v2,rfl,hv2,hb1⟩;have hR1:=alloc_row_one hb1;have hx1:=below_call hx0 hb1;clear hb1;obtain⟨k1,t1,b1,sc1,ho1,wd1,po1,pa1⟩:=x
     go_wp2_with (refine store_src rfl _ _ rfl w.heap.size rfl rfl _ hR1 rfl ?_)
     refine bodyPost_ret (results_src (u:=3) rfl _ _ w.heap.size ⟨k1,t1,b1,sc1,ho1,wd1,po1,pa1⟩ (0,0) rfl (setRow_heap _ _ _ _ _ _ hR1)) rfl ⟨_,_,rfl,?_,below_setRow hx1 (Nat.le_refl _) _⟩;rw[Hp.out];exact hv2.out.setRow hR1 rfl _
  ·have h1:1<s.size:=by
    have h:=Hq.out;unfold Lz.quotes at h;rw[len_of_size]at h;by_cases h1:1<s.size
    ·exact h1
    ·rw[decide_eq_false h1]at h
     simp at h
   have hz:=extract_size_le s 1 (s.size-1);have hc1:((s.size:Int)-1)=((s.size-1:Nat):Int):=by omega
   have Hc1:=Ih hc1;clear hc1
   go_wp2_with fail
   refine(quoted_any (s.extract 1 (s.size-1)) (by omega) _ hE0).mono ?_;rintro e w1 ⟨x,v2,rfl,hv2,hb1⟩;have hR1:=alloc_row_one hb1;have hx1:=below_call hx0 hb1;clear hb1
   have hp:Lz.parseS s.data.toList=Lz.quotedS (s.extract 1 (s.size-1)).data.toList:=by
    unfold Lz.parseS;rw[<-Hq.out,dropLast_extract,if_pos rfl]
   have Hp:=Ih hp;clear hp;obtain⟨k1,t1,b1,sc1,ho1,wd1,po1,pa1⟩:=x
   go_wp2_with (refine store_src rfl _ _ rfl w.heap.size rfl rfl _ hR1 rfl ?_)
   refine bodyPost_ret (results_src (u:=3) rfl _ _ w.heap.size ⟨k1,t1,b1,sc1,ho1,wd1,po1,pa1⟩ (0,0) rfl (setRow_heap _ _ _ _ _ _ hR1)) rfl ⟨_,_,rfl,?_,below_setRow hx1 (Nat.le_refl _) _⟩;rw[Hp.out];exact(hv2.out.up (Nat.zero_le 3)).setRow hR1 rfl _
def parseR (l:List UInt8):Lz.Src:=(Lz.parseS l).getD ⟨0,[],0,[],[],false,0,[]⟩
def parseE (l:List UInt8):Int:=if(Lz.parseS l).isSome then 0 else 250
def RParse (l:List UInt8) (w:World) (e:Ending) (w':World):Prop:=
 ∃x:SrcB,e=.returned (.tuple #[x.val,.int .i64 (parseE l)])/\Hid (x.src=parseR l)/\Below w.heap.size w w'
theorem results_src2 {fn:Func} {p u:Tmp} (h:fn.results= #[.cell p 47,.tmp u]) (tmps:Array Value) (w:World) (g:Nat) (x:SrcB) (fr:Nat×Nat) (n:Int)
  (hp:tmps.getD p undef=.pointer (some ⟨g,0,none⟩)) (hu:tmps.getD u undef=.int .i64 n) (hg:w.heap[g]? =some (.cells #[.int .i64 x.kind,.string x.text,.int .i64 x.bits,.string x.scheme,.string x.host,.bool x.wild,.int .i64 x.port,.string x.path] 47 fr)):
  (results fn tmps).run Tryz.prog w=.ok (.tuple #[x.val,.int .i64 n]) w:=by
 rw[<-hu];exact results_src h tmps w g x fr hp hg
theorem Parse_any (s:ByteArray) (hs:s.size<=1048576) (w:World) (hE:Env w):Calls Tryz.prog 50 #[.string s] w (RParse s.data.toList w):=by
 have hx0:Below w.heap.size w (w.alloc (.cells #[.int .i64 0,.string ⟨#[]⟩,.int .i64 0,.string ⟨#[]⟩,.string ⟨#[]⟩,.bool false,.int .i64 0,.string ⟨#[]⟩] 47)):=(Below.refl _ w).alloc (Nat.le_refl _) _;have hE0:=hE.below hx0;go_enter Tryz.func50,Tryz.ntmps50
 go_wp2_with fail
 refine(parse_any s hs _ hE0).mono ?_;rintro e w1 ⟨x,v,rfl,hv,hb1⟩;have hR1:=alloc_row_one hb1;have hx1:=below_call hx0 hb1;have hE1:=hE.below hx1;clear hb1;obtain⟨k1,t1,b1,sc1,ho1,wd1,po1,pa1⟩:=x
 dsimp only[SrcB.val]
 have hR2:∀o1 o2:Obj,((w1.alloc o1).alloc o2).heap[w.heap.size]? =some (.cells #[.int .i64 0,.string ⟨#[]⟩,.int .i64 0,.string ⟨#[]⟩,.string ⟨#[]⟩,.bool false,.int .i64 0,.string ⟨#[]⟩] 47 (0,0)):=fun o1 o2=>by
  have hl:=(Array.getElem?_eq_some_iff.1 hR1).1;rw[Below.heap_alloc _ _ _ (by simp;omega),Below.heap_alloc _ _ _ hl];exact hR1
 cases hp:Lz.parseS s.data.toList with
 | some y=>
   rw[hp]at hv;obtain⟨hy,rfl⟩:=hv.out;have Hy:=Ih hy;clear hy hv;have HE:Hid (parseE s.data.toList=0/\parseR s.data.toList=y):=by refine⟨?_,?_⟩<;>simp[parseE,parseR,hp]
   clear hp
   go_wp2_with fail
   refine(As_nil _ _).mono ?_;rintro e w2 ⟨rfl,rfl⟩
   go_wp2_with (refine store_src rfl _ _ rfl w.heap.size rfl rfl _ (hR2 _ _) rfl ?_)
   refine bodyPost_ret (results_src2 (u:=3) rfl _ _ w.heap.size ⟨k1,t1,b1,sc1,ho1,wd1,po1,pa1⟩ (0,0) 0 rfl rfl (setRow_heap _ _ _ _ _ _ (hR2 _ _))) rfl ⟨⟨k1,t1,b1,sc1,ho1,wd1,po1,pa1⟩,by rw[HE.out.1],by show _=_;rw[HE.out.2];exact Hy.out,below_setRow ?_ (Nat.le_refl _) _⟩;exact(hx1.alloc (by have:=hx1.size;omega) _).alloc (by have:=hx1.size;simp;omega) _
 | none=>
   rw[hp]at hv;have hB:Bady w1 3 v:=hv.out;obtain⟨t0,x0,rfl⟩:=hB.iface;have HE:Hid (parseE s.data.toList=250/\parseR s.data.toList=⟨0,[],0,[],[],false,0,[]⟩):=by refine⟨?_,?_⟩<;>simp[parseE,parseR,hp]
   clear hp hv;have hxa:∀o1 o2:Obj,Below w1.heap.size w1 ((w1.alloc o1).alloc o2):=fun o1 o2=>((Below.refl _ w1).alloc (Nat.le_refl _) _).alloc (by simp) _;have HB:=Ih hB;clear hB
   go_wp2_with fail
   refine(As_bady 3 t0 x0 (w1.heap.size+1) (.string ⟨#[]⟩) _ (hE1.below (hxa _ _)) (HB.out.below (hxa _ _)) (by simp) (by simp)).mono ?_;rintro e w2 ⟨rfl,hb2⟩
   have hR3:w2.heap[w.heap.size]? =some (.cells #[.int .i64 0,.string ⟨#[]⟩,.int .i64 0,.string ⟨#[]⟩,.string ⟨#[]⟩,.bool false,.int .i64 0,.string ⟨#[]⟩] 47 (0,0)):=by
    have hl:=(Array.getElem?_eq_some_iff.1 hR1).1;rw[hb2.block _ (by omega)];exact hR2 _ _
   have hx3:Below w.heap.size w w2:=(hx1.trans ((hxa _ _).mono hx1.size)).trans (hb2.mono (by have:=hx1.size;omega));clear hb2 hR2 hxa hR1
   go_wp2_with (refine store_src rfl _ _ rfl w.heap.size rfl rfl _ hR3 rfl ?_)
   refine bodyPost_ret (results_src2 (u:=3) rfl _ _ w.heap.size ⟨0,⟨#[]⟩,0,⟨#[]⟩,⟨#[]⟩,false,0,⟨#[]⟩⟩ (0,0) 250 rfl rfl (setRow_heap _ _ _ _ _ _ hR3)) rfl ⟨⟨0,⟨#[]⟩,0,⟨#[]⟩,⟨#[]⟩,false,0,⟨#[]⟩⟩,by rw[HE.out.1],by show _=_;rw[HE.out.2];rfl,below_setRow hx3 (Nat.le_refl _) _⟩
end Go.Proofs.YtjhccadmmnjpeaaGreatDoor
namespace Lz
open Go
def inlineS:Bs:=[117,110,115,97,102,101,45,105,110,108,105,110,101]
def strictS:Bs:=[115,116,114,105,99,116,45,100,121,110,97,109,105,99]
def hashesS:Bs:=[117,110,115,97,102,101,45,104,97,115,104,101,115]
def kwS (n:Bs) (x:Src):Bool:=x.kind==1&&x.text==n
def hasK (l:List Src) (n:Bs):Bool:=l.any (kwS n)
def barS (kind:Int) (x:Src):Bool:=x.kind==4||(x.kind==5||(kwS strictS x&&decide (kind<4)))
def allP (kind:Int) (vs:List Bs):Bool:= !((listS vs).any (barS kind))&&hasK (listS vs) inlineS
def nonceP (vs:List Bs) (n:Bs):Bool:=n != []&&(listS vs).any fun x=>x.kind==4&&x.text==n
def usual1 (c:UInt8):UInt8:=if c=45 then 43 else if c=95 then 47 else c
def usual (l:Bs):Bs:=l.map usual1
def hashP (sum:Int->Bs->Bs) (vs:List Bs) (t:Bs):Bool:=(listS vs).any fun x=>x.kind==5&&usual x.text==sum x.bits t
def elemP (kind:Int):Bool:=kind==1||kind==4
def inlineP (sum:Int->Bs->Bs) (kind:Int) (vs:List Bs) (n t:Bs):Bool:=
 if kind<1\/5<kind\/noneM vs=true then false
 else if(allP kind vs||(elemP kind&&nonceP vs n))=true then true
 else(elemP kind||hasK (listS vs) hashesS)&&hashP sum vs t
def isSp (c:UInt8):Bool:=c==32||c==9||c==10||c==12||c==13
def wordOf (w:Bs):Option Src:=
 match parseS (39::(w.takeWhile (·!= 63)++[39]))with
 | some x=>if x.kind=5 then some x else none
 | none=>none
def heldP (fields:Bs->List Bs) (s:Bs):List Src:=(fields s).filterMap wordOf
def likeH (x y:Src):Bool:=y.kind==5&&(y.bits==x.bits&&usual y.text==usual x.text)
def integrityP (fields:Bs->List Bs) (vs:List Bs) (s:Bs):Bool:=(heldP fields s).all (fun x=>(listS vs).any (likeH x))&& !(heldP fields s).isEmpty
def fetchP (fields:Bs->List Bs) (vs:List Bs) (u own:UrlL) (n s:Bs):Bool:=
 if noneM vs=true then false
 else if(nonceP vs n||integrityP fields vs s)=true then true
 else if hasK (listS vs) strictS=true then false
 else anyM u vs own false
def b64:Bs:=[65,66,67,68,69,70,71,72,73,74,75,76,77,78,79,80,81,82,83,84,85,86,87,88,89,90,97,98,99,100,101,102,103,104,105,106,107,108,109,110,111,112,113,114,115,116,117,118,119,120,121,122,48,49,50,51,52,53,54,55,56,57,43,47]
def let64 (n:Nat):UInt8:=b64.getD (n%64) 0
def four64 (n k:Nat):Bs:=[let64 (n / 262144),let64 (n / 4096),if 2<=k then let64 (n / 64)else 61,if 3<=k then let64 n else 61]
def enc64:Bs->Bs
 | []=>[]
 | [a]=>four64 (a.toNat*65536) 1
 | [a,b]=>four64 (a.toNat*65536+b.toNat*256) 2
 | a::b::c::r=>four64 (a.toNat*65536+b.toNat*256+c.toNat) 3++enc64 r
def plain64 (c:UInt8):Bool:=isLetter c&&(c != 45&&c != 95)
theorem let64_ok (n:Nat):plain64 (let64 n)=true:=by
 unfold let64;have h:=Nat.mod_lt n (show 64>0 by decide);generalize n%64=k at h;exact(by decide +kernel:∀k:Fin 64,plain64 (b64.getD k.val 0)=true) ⟨k,h⟩
theorem enc64_form:∀s:Bs,∃v e:Bs,enc64 s=v++e/\(∀c∈v,plain64 c=true)/\(s≠[]->v≠[])/\(e=[]\/e=[61]\/e=[61,61])
 | []=>⟨[],[],rfl,by simp,by simp,Or.inl rfl⟩
 | [a]=>⟨[let64 (a.toNat*65536 / 262144),let64 (a.toNat*65536 / 4096)],[61,61],rfl,by
  intro c hc;simp only[List.mem_cons,List.not_mem_nil,or_false]at hc;rcases hc with rfl|rfl<;>exact let64_ok _,by simp,Or.inr (Or.inr rfl)⟩
 | [a,b]=>⟨[let64 ((a.toNat*65536+b.toNat*256) / 262144),let64 ((a.toNat*65536+b.toNat*256) / 4096),let64 ((a.toNat*65536+b.toNat*256) / 64)],[61],rfl,by
  intro c hc;simp only[List.mem_cons,List.not_mem_nil,or_false]at hc;rcases hc with rfl|rfl|rfl<;>exact let64_ok _,by simp,Or.inr (Or.inl rfl)⟩
 | a::b::c::r=>by
   obtain⟨v,e,h1,h2,h3,h4⟩:=enc64_form r;refine⟨four64 (a.toNat*65536+b.toNat*256+c.toNat) 3++v,e,?_,?_,?_,h4⟩
   ·rw[enc64,h1,List.append_assoc]
   ·intro x hx;rcases List.mem_append.1 hx with hx|hx
    ·unfold four64 at hx;simp only[List.mem_cons,List.not_mem_nil,or_false]at hx;rcases hx with rfl|rfl|rfl|rfl
     ·exact let64_ok _
     ·exact let64_ok _
     ·rw[if_pos (by omega)];exact let64_ok _
     ·rw[if_pos (by omega)];exact let64_ok _
    ·exact h2 x hx
   ·intro _;simp[four64]
theorem enc64_len:∀s:Bs,(enc64 s).length<=4*s.length+4
 | []=>by simp[enc64]
 | [a]=>by simp[enc64,four64]
 | [a,b]=>by simp[enc64,four64]
 | a::b::c::r=>by
   have:=enc64_len r
   simp[enc64,four64];omega
theorem trimR_behind (v:Bs) (h:∀c∈v,c≠61) (n:Nat):Lib.trimRightB (v++List.replicate n 61) 61=v:=by
 have:=Lib.trimRightB_take (v++List.replicate n 61) 61 v.length (by simp) (by
  intro j b hj hb;rw[List.getElem?_append_right hj]at hb;have:=List.mem_of_getElem? hb;exact(List.mem_replicate.1 this).2) (by
  intro b h0 hb;rw[List.getElem?_append_left (by omega)]at hb;exact h b (List.mem_of_getElem? hb))
 rw[this];simp
theorem base_ends (v e:Bs) (h:∀c∈v,isLetter c=true) (hn:v≠[]) (he:e=[]\/e=[61]\/e=[61,61]):baseB (v++e)=true:=by
 have h61:∀c∈v,c≠61:=fun c hc=>letter_ne61 (h c hc)
 have hv:allB isLetter v=true:=by
  unfold allB;rw[List.all_eq_true.2 h];cases v with
  | nil=>exact absurd rfl hn
  | cons _ _=>rfl
 have hr:∃n,n<=2/\e=List.replicate n 61:=by
  rcases he with rfl|rfl|rfl
  ·exact⟨0,by omega,rfl⟩
  ·exact⟨1,by omega,rfl⟩
  ·exact⟨2,by omega,rfl⟩
 obtain⟨n,hn2,rfl⟩:=hr;unfold baseB;rw[trimR_behind v h61 n,hv]
 simp;omega
def coded1 (c:UInt8):UInt8:=if c=43 then 45 else if c=47 then 95 else c
def coded (l:Bs):Bs:=l.map coded1
theorem coded_letter:∀c:UInt8,plain64 c=true->isLetter (coded1 c)=true/\usual1 (coded1 c)=c/\usual1 c=c/\isLetter c=true:=byte_all (by decide +kernel)
theorem usual_enc (s:Bs):usual (enc64 s)=enc64 s:=by
 obtain⟨v,e,h1,h2,_,h4⟩:=enc64_form s;rw[h1];unfold usual;rw[List.map_append];congr 1
 ·conv=>rhs;rw[<-List.map_id v]
  exact List.map_congr_left fun c hc=>(coded_letter c (h2 c hc)).2.2.1
 ·rcases h4 with rfl|rfl|rfl<;>rfl
theorem usual_coded (s:Bs):usual (coded (enc64 s))=enc64 s:=by
 obtain⟨v,e,h1,h2,_,h4⟩:=enc64_form s;rw[h1];unfold usual coded;rw[List.map_append,List.map_append,List.map_map];congr 1
 ·conv=>rhs;rw[<-List.map_id v]
  exact List.map_congr_left fun c hc=>(coded_letter c (h2 c hc)).2.1
 ·rcases h4 with rfl|rfl|rfl<;>rfl
theorem base_enc {s:Bs} (h:s≠[]):baseB (enc64 s)=true:=by
 obtain⟨v,e,h1,h2,h3,h4⟩:=enc64_form s;rw[h1];exact base_ends v e (fun c hc=>(coded_letter c (h2 c hc)).2.2.2) (h3 h) h4
theorem base_coded {s:Bs} (h:s≠[]):baseB (coded (enc64 s))=true:=by
 obtain⟨v,e,h1,h2,h3,h4⟩:=enc64_form s;rw[h1];unfold coded;rw[List.map_append];refine base_ends _ _ (fun c hc=>?_) (fun e=>h3 h (List.map_eq_nil_iff.1 e)) ?_
 ·obtain⟨d,hd,rfl⟩:=List.mem_map.1 hc;exact(coded_letter d (h2 d hd)).1
 ·rcases h4 with rfl|rfl|rfl
  ·exact Or.inl rfl
  ·exact Or.inr (Or.inl rfl)
  ·exact Or.inr (Or.inr rfl)
def shaHead:Nat->Bs
 | 0=>[115,104,97,50,53,54,45]
 | 1=>[115,104,97,51,56,52,45]
 | _=>[115,104,97,53,49,50,45]
def shaBits:Nat->Int
 | 0=>256
 | 1=>384
 | _=>512
theorem head_parse (k:Nat) (v:Bs) (h:baseB v=true):parseS (39::(shaHead k++v++[39]))=some (hashS v (shaBits k)):=by
 rw[show(39::(shaHead k++v++[39]):Bs)=39::((shaHead k++v)++[39]) by simp,parse_wrap]
 match k with
 | 0=>rw[show shaHead 0=[115,104,97,50,53,54,45]from rfl,q_sha _ v 256 (by simp) (by rw[sha256];decide) rfl,if_pos h];rfl
 | 1=>rw[show shaHead 1=[115,104,97,51,56,52,45]from rfl,q_sha _ v 384 (by simp) (by rw[sha384];decide) rfl,if_pos h];rfl
 | n+2=>rw[show shaHead (n+2)=[115,104,97,53,49,50,45]from rfl,q_sha _ v 512 (by simp) (by rw[sha512];decide) rfl,if_pos h];rfl
section
variable (dig:Int->Bs->Bs)
def sumD (b:Int) (t:Bs):Bs:=enc64 (dig b t)
def hashV (k:Nat) (t:Bs):Bs:=39::(shaHead k++sumD dig (shaBits k) t++[39])
def codeV (k:Nat) (t:Bs):Bs:=39::(shaHead k++coded (sumD dig (shaBits k) t)++[39])
def hashesV:Bs:=39::(hashesS++[39])
def inlineV:Bs:=39::(inlineS++[39])
def strictV:Bs:=39::(strictS++[39])
theorem parse_hashes:parseS hashesV=some (keyS hashesS):=by decide +kernel
theorem parse_strict:parseS strictV=some (keyS strictS):=by decide +kernel
theorem listS_cons (a:Bs) (l:List Bs):listS (a::l)=(parseS a).toList++listS l:=by
 unfold listS;rw[List.filterMap_cons];cases parseS a<;>rfl
theorem low_quote (l:Bs):low (39::l)=39::low l:=rfl
theorem none_sha (k:Nat) (v:Bs):noneM [39::(shaHead k++v)]=false:=by
 unfold noneM
 have:(low (39::(shaHead k++v))==noneS)=false:=by
  rw[beq_eq_false_iff_ne,low_quote]
  match k with
  | 0=>intro h;injection h with _ h;injection h with h _;revert h;decide
  | 1=>intro h;injection h with _ h;injection h with h _;revert h;decide
  | n+2=>intro h;injection h with _ h;injection h with h _;revert h;decide
 simp[this]
theorem none_two (a b:Bs) (l:List Bs):noneM (a::b::l)=false:=by simp[noneM]
variable {dig}
theorem list_hash (hd:∀b t,dig b t≠[]) (k:Nat) (t:Bs):listS [hashV dig k t]=[hashS (sumD dig (shaBits k) t) (shaBits k)]:=by
 unfold hashV sumD;rw[listS_cons,head_parse k _ (base_enc (hd _ _))];rfl
theorem list_code (hd:∀b t,dig b t≠[]) (k:Nat) (t:Bs) (l:List Bs):listS (codeV dig k t::l)=hashS (coded (sumD dig (shaBits k) t)) (shaBits k)::listS l:=by
 unfold codeV sumD;rw[listS_cons,head_parse k _ (base_coded (hd _ _))];rfl
theorem hash_own (hd:∀b t,dig b t≠[]) (k:Nat) (t:Bs):hashP (sumD dig) [hashV dig k t] t=true:=by
 unfold hashP;rw[list_hash hd]
 simp[hashS,sumD,usual_enc]
theorem hash_code (hd:∀b t,dig b t≠[]) (k:Nat) (t:Bs) (l:List Bs):hashP (sumD dig) (codeV dig k t::l) t=true:=by
 unfold hashP;rw[list_code hd]
 simp[hashS,sumD,usual_coded]
theorem all_of_mem {vs:List Bs} {x:Src} (h:x∈listS vs) {kind:Int} (hb:barS kind x=true):allP kind vs=false:=by
 unfold allP;rw[List.any_eq_true.2 ⟨x,h,hb⟩];rfl
theorem inline_hash (hd:∀b t,dig b t≠[]) (k:Nat) (t:Bs) (kind:Int) (h1:1<=kind) (h5:kind<=5):inlineP (sumD dig) kind [hashV dig k t] [] t=elemP kind:=by
 unfold inlineP;have hn:noneM [hashV dig k t]=false:=by unfold hashV;rw[List.append_assoc];exact none_sha k _
 rw[if_neg (by rw[hn];simp;omega),all_of_mem (x:=hashS (sumD dig (shaBits k) t) (shaBits k)) (by rw[list_hash hd];simp) (by simp[barS,hashS]),hash_own hd];have:hasK (listS [hashV dig k t]) hashesS=false:=by rw[list_hash hd];simp[hasK,kwS,hashS]
 rw[this]
 simp[nonceP]
theorem inline_code (hd:∀b t,dig b t≠[]) (k:Nat) (t:Bs) (kind:Int) (h1:1<=kind) (h5:kind<=5):inlineP (sumD dig) kind [codeV dig k t] [] t=elemP kind:=by
 unfold inlineP;have hn:noneM [codeV dig k t]=false:=by unfold codeV;rw[List.append_assoc];exact none_sha k _
 rw[if_neg (by rw[hn];simp;omega),all_of_mem (x:=hashS (coded (sumD dig (shaBits k) t)) (shaBits k)) (by rw[list_code hd];simp) (by simp[barS,hashS]),hash_code hd];have:hasK (listS [codeV dig k t]) hashesS=false:=by rw[list_code hd];simp[hasK,kwS,hashS,listS]
 rw[this]
 simp[nonceP]
theorem inline_more (hd:∀b t,dig b t≠[]) (k:Nat) (t:Bs) (kind:Int) (h1:1<=kind) (h5:kind<=5):inlineP (sumD dig) kind [codeV dig k t,hashesV] [] t=true:=by
 unfold inlineP;rw[if_neg (by rw[none_two];simp;omega),all_of_mem (x:=hashS (coded (sumD dig (shaBits k) t)) (shaBits k)) (by rw[list_code hd];simp) (by simp[barS,hashS]),hash_code hd]
 have:hasK (listS [codeV dig k t,hashesV]) hashesS=true:=by
  rw[list_code hd,listS_cons,parse_hashes]
  simp[hasK,kwS,keyS]
 rw[this]
 simp[nonceP]
theorem listS_app' (a b:List Bs):listS (a++b)=listS a++listS b:=by unfold listS;rw[List.filterMap_append]
theorem strict_law (fields:Bs->List Bs) (hf:fields []=[]) (vs:List Bs) (u:UrlL) (n:Bs):fetchP fields (vs++[strictV]) u u n []=nonceP (vs++[strictV]) n:=by
 unfold fetchP
 have hn:noneM (vs++[strictV])=false:=by
  match vs with
  | []=>decide +kernel
  | [a]=>exact none_two _ _ _
  | a::b::r=>exact none_two _ _ _
 have hi:integrityP fields (vs++[strictV]) []=false:=by unfold integrityP heldP;rw[hf];rfl
 have hk:hasK (listS (vs++[strictV])) strictS=true:=by
  rw[listS_app',listS_cons,parse_strict]
  simp[hasK,kwS,keyS]
 rw[if_neg (by rw[hn];simp),hi,Bool.or_false,if_pos hk];cases nonceP (vs++[strictV]) n<;>rfl
end
theorem hash_any {vs:List Bs} (h:((listS vs).any fun x=>x.kind==5)=false) (s1 s2:Int->Bs->Bs) (t1 t2:Bs):hashP s1 vs t1=hashP s2 vs t2:=by
 have:∀s t,hashP s vs t=false:=fun s t=>by
  unfold hashP;rw[List.any_eq_false]at h⊢;intro x hx;have:=h x hx;simp only[Bool.not_eq_true]at this;rw[this];simp
 rw[this,this]
theorem inline_any {vs:List Bs} (h:((listS vs).any fun x=>x.kind==5)=false) (s1 s2:Int->Bs->Bs) (kind:Int) (n t1 t2:Bs):inlineP s1 kind vs n t1=inlineP s2 kind vs n t2:=by
 unfold inlineP;rw[hash_any h s1 s2 t1 t2]
def noSum (_:Int) (_:Bs):Bs:=[]
def nonceA:Bs:=[39,110,111,110,99,101,45,97,39]
def httpsV:Bs:=[104,116,116,112,115,58]
def alertT:Bs:=[97,108,101,114,116,40,49,41]
section
variable (sum:Int->Bs->Bs)
theorem lets_unsafe (kind:Int) (h1:1<=kind) (h5:kind<=5):inlineP sum kind [inlineV] [] [120]=true:=by
 rw[inline_any (by decide +kernel) sum noSum kind [] [120] []];obtain rfl|rfl|rfl|rfl|rfl:kind=1\/kind=2\/kind=3\/kind=4\/kind=5:=by omega
 all_goals decide +kernel
theorem lets0:inlineP sum 1 [inlineV,nonceA] [97] [120]=true:=by rw[inline_any (by decide +kernel) sum noSum 1 [97] [120] []];decide +kernel
theorem lets1:inlineP sum 1 [inlineV,nonceA] [98] [120]=false:=by rw[inline_any (by decide +kernel) sum noSum 1 [98] [120] []];decide +kernel
theorem lets2:inlineP sum 2 [inlineV,nonceA] [97] [120]=false:=by rw[inline_any (by decide +kernel) sum noSum 2 [97] [120] []];decide +kernel
theorem lets3:inlineP sum 1 [inlineV,strictV] [] [120]=false:=by rw[inline_any (by decide +kernel) sum noSum 1 [] [120] []];decide +kernel
theorem lets4:inlineP sum 4 [inlineV,strictV] [] [120]=true:=by rw[inline_any (by decide +kernel) sum noSum 4 [] [120] []];decide +kernel
end
section
variable {dig:Int->Bs->Bs}
theorem lets5 (hd:∀b t,dig b t≠[]):inlineP (sumD dig) 1 [hashV dig 0 alertT] [] alertT=true:=by rw[inline_hash hd 0 alertT 1 (by omega) (by omega)];rfl
theorem lets6 (hd:∀b t,dig b t≠[]):inlineP (sumD dig) 2 [hashV dig 0 alertT] [] alertT=false:=by rw[inline_hash hd 0 alertT 2 (by omega) (by omega)];rfl
theorem lets7 (hd:∀b t,dig b t≠[]):inlineP (sumD dig) 2 [hashV dig 0 alertT,hashesV] [] alertT=true:=by
 have hl:listS [hashV dig 0 alertT,hashesV]=[hashS (sumD dig 256 alertT) 256,keyS hashesS]:=by
  have h:=list_hash hd 0 alertT;rw[listS_cons]at h⊢;rw[listS_cons,parse_hashes]
  have h2:(parseS (hashV dig 0 alertT)).toList=[hashS (sumD dig 256 alertT) 256]:=by
   have e:listS []=[]:=rfl;rw[e,List.append_nil]at h;exact h
  rw[h2];rfl
 unfold inlineP;rw[if_neg (by rw[none_two];simp),all_of_mem (x:=hashS (sumD dig 256 alertT) 256) (by rw[hl];simp) (by simp[barS,hashS])]
 have h1:hashP (sumD dig) [hashV dig 0 alertT,hashesV] alertT=true:=by
  unfold hashP;rw[hl]
  simp[hashS,sumD,usual_enc]
 have h2:hasK (listS [hashV dig 0 alertT,hashesV]) hashesS=true:=by rw[hl];simp[hasK,kwS,keyS]
 rw[h1,h2]
 simp[nonceP]
end
theorem lets8 (fields:Bs->List Bs) (u:UrlL):fetchP fields [strictV,nonceA,httpsV] u u [97] []=true:=by
 unfold fetchP;have h1:noneM [strictV,nonceA,httpsV]=false:=by decide +kernel
 have h2:nonceP [strictV,nonceA,httpsV] [97]=true:=by decide +kernel
 rw[h1,h2]
 simp
theorem lets9 (fields:Bs->List Bs) (hf:fields []=[]) (u:UrlL):fetchP fields [strictV,nonceA,httpsV] u u [] []=false:=by
 unfold fetchP;have h1:noneM [strictV,nonceA,httpsV]=false:=by decide +kernel
 have h2:nonceP [strictV,nonceA,httpsV] []=false:=by decide +kernel
 have h3:hasK (listS [strictV,nonceA,httpsV]) strictS=true:=by decide +kernel
 have h4:integrityP fields [strictV,nonceA,httpsV] []=false:=by unfold integrityP heldP;rw[hf];rfl
 rw[h1,h2,h3,h4]
 simp
end Lz
namespace Go.Proofs.YtjhccadmmnjpeaaGreatDoor
open Go.RowKit
def lenT (n i:Nat):List UInt8:=(List.range i).map fun i=>UInt8.ofNat (n*8 / 2^(56-8*i))
theorem lenT_succ (n i:Nat):lenT n (i+1)=lenT n i++[UInt8.ofNat (n*8 / 2^(56-8*i))]:=by
 unfold lenT;rw[List.range_succ,List.map_append];rfl
theorem makeB (m:Nat) (hm:m<=1048576) (w:World):(Instr.makeSlice 30 (.int .i64 (m:Int)) (.int .i64 (m:Int))).run Tryz.prog w=.ok (.slice (some ⟨w.heap.size,0,none⟩) m m) (w.alloc (.cells (Array.replicate m (.int .u8 0)) 5)):=by
 obtain⟨i0,hi,hz0,hz1,hz2⟩:=info_parts Tryz.infoU8;have h:=run_makeSlice (P:=Tryz.prog) w 30 5 i0 (.int .u8 0) Tryz.underlying30 hi hz0 .i64 .i64 (m:Int) (m:Int) (by omega) (Int.le_refl _) (by rw[hz1];simp;omega) (by rw[hz2];omega) (by omega);have e:madeCells #[Value.int .u8 0] m=Array.replicate m (Value.int .u8 0):=by rw[<-Array.toList_inj,toList_madeCells_one,Array.toList_replicate]
 rw[hz1,Int.toNat_natCast,Nat.mul_one]at h;rw[<-e];exact h
theorem end_any (n:Nat) (hn:n<140737488355328) (w:World):Calls Tryz.prog 64 #[.int .i64 (n:Int)] w fun e w'=>e=.returned (.string ⟨(Lz.padB n).toArray⟩)/\Below w.heap.size w w':=by
 obtain⟨i0,hi0,hz0,hz1,hz2⟩:=info_parts Tryz.infoU8;obtain⟨m,hm⟩:∃m,m=64-(n+8)%64:=⟨_,rfl⟩;have hm1:1<=m:=by omega
 have hm2:m<=64:=by omega
 have hmk:=makeB m (by omega);have f1:IntKind.i64.wrap ((n:Int)+8)=(n:Int)+8:=IntWalk.i64_in _ (by omega);have f2:64-((n:Int)+8)%64=(m:Int):=by omega
 have HL:Hid (Lz.padB n=(128::List.replicate (m-1) 0)++lenT n 8):=by
  show _=_;unfold Lz.padB Lz.lenB lenT;rw[show m-1=63-(n+8)%64 by omega]
 clear hm
 have hc0:(w.alloc (.cells (Array.replicate m (.int .u8 0)) 5)).cell? ⟨w.heap.size,0,none⟩=some (.int .u8 0):=by
  refine rowAt (heap_new _ _) 0 _ ?_;rw[Array.getElem?_replicate,if_pos (by omega)]
 have hf0:(w.alloc (.cells (Array.replicate m (.int .u8 0)) 5)).frozen? ⟨w.heap.size,0,none⟩=false:=by
  have h:=heap_new w (.cells (Array.replicate m (.int .u8 0)) 5);exact frozen_of_row _ _ _ _ _ h
 go_enter Tryz.func64,Tryz.ntmps64
 go_wp2_with fail
 have hown0:(w.alloc (.cells ((Array.replicate m (.int .u8 0)).setIfInBounds 0 (.int .u8 128)) 5)).ownsRow w.heap.size 5 1 (.slice (some ⟨w.heap.size,0,none⟩) m m) (m+0) (u8s ((128::List.replicate (m-1) 0)++lenT n 0)):=by
  have h:=World.ownsRow_lit (base:=w.heap.size) (e:=5) (size:=1) w ((Array.replicate m (.int .u8 0)).setIfInBounds 0 (.int .u8 128)) m (Nat.le_refl _) (by unfold maxLen;omega) (by simp)
  have e:((Array.replicate m (Value.int .u8 0)).setIfInBounds 0 (.int .u8 128)).toList=u8s ((128::List.replicate (m-1) 0)++lenT n 0):=by
   rw[Array.toList_setIfInBounds,Array.toList_replicate];obtain⟨k,rfl⟩:∃k,m=k+1:=⟨m-1,by omega⟩;rw[List.replicate_succ,List.set_cons_zero,Nat.add_sub_cancel]
   simp[u8s,lenT]
  rwa [e]at h
 have hb0:Below w.heap.size w (w.alloc (.cells ((Array.replicate m (.int .u8 0)).setIfInBounds 0 (.int .u8 128)) 5)):=(Below.refl _ w).alloc (Nat.le_refl _) _;generalize w.alloc (.cells ((Array.replicate m (.int .u8 0)).setIfInBounds 0 (.int .u8 128)) 5)=W1 at hown0 hb0⊢;clear hc0 hf0 hmk f1 f2;obtain⟨pre,hpre⟩:∃p:List UInt8,p=128::List.replicate (m-1) 0:=⟨_,rfl⟩;rw[<-hpre]at HL hown0;clear hpre
 go_loopw [3,4,12] (fun v _ k wr=>∃i:Nat,k=.int .i64 i/\i<=8/\wr.ownsRow w.heap.size 5 1 v (m+i) (u8s (pre++lenT n i))/\Below w.heap.size w wr) (fun _ _ k _=>8-(intOf k).toNat)
 case atStart=>exact⟨0,rfl,by omega,hown0,hb0⟩
 case round=>
  obtain⟨i,rfl,hi,hown,hb⟩:=hrel;have Hown:=Ih hown;have hsz:=hb.size;clear hown;by_cases hlt:i<8
  ·have Hst:Hid (u8s (pre++lenT n i)++[.int .u8 ((n:Int)*8 / 2^(56-8*i)%256)]=u8s (pre++lenT n (i+1))):=by
    show _=_;rw[lenT_succ,<-List.append_assoc,<-u8s_snoc,UInt8.toNat_ofNat'];congr 3
   go_wp2_with (at_builtin;refine wpList_append_own _ rfl (.tmp 15) (.tmp 24) 30 rfl w.heap.size 5 i0 (.int .u8 0) 1 1 Tryz.underlying30 hi0 hz0 hz1 hz2 rfl (by decide) _ _ _ rfl (Hown.out.alloc _) ⟨wr.heap.size,0,none⟩ 1 1 [.int .u8 ((n:Int)*8 / 2^(56-8*i)%256)] rfl rfl (cell_one _ _ _) (by simp[Value.oneCell']) (by unfold maxLen;omega) (by omega) (by simp;omega) ?_)
   intro v' w1 hown' hgrow _;have hb1:=Below.grown1 hb Hown.out hgrow hsz (Nat.le_refl _);rw[Hst.out]at hown';have Hown1:=Ih hown';clear hown' hgrow Hst hb
   go_wp2
   go_roundw
   case rel=>exact⟨i+1,by go_num,by omega,Hown1.out,hb1⟩
   case measure=>simp[intOf];omega
  ·obtain rfl:i=8:=by omega
   have hcv:=conv_own Hown.out;rw[<-HL.out]at hcv;clear Hown
   go_wp2
   go_ret;exact⟨rfl,hb⟩
def first32:Lz.St8 UInt32:=⟨0x6a09e667,0xbb67ae85,0x3c6ef372,0xa54ff53a,0x510e527f,0x9b05688c,0x1f83d9ab,0x5be0cd19⟩
theorem first_row:(#[.int .u32 1779033703,.int .u32 3144134277,.int .u32 1013904242,.int .u32 2773480762,.int .u32 1359893119,.int .u32 2600822924,.int .u32 528734635,.int .u32 1541459225]:Array Value)=(rowW first32.list).toArray:=by kernel_rfl
theorem first_any (w:World):Calls Tryz.prog 62 #[] w fun e w'=>e=.returned (.agg (rowW first32.list).toArray)/\Below w.heap.size w w':=by
 go_enter Tryz.func62,Tryz.ntmps62
 go_wp2_with fail
 rw[first_row];refine bodyPost_ret (results_cell_row (P:=Tryz.prog) (p:=0) rfl _ _ w.heap.size 78 _ (0,0) _ rfl (heap_new _ _) Tryz.underlying78 rfl (by exact state_size)) rfl ?_;exact⟨rfl,(Below.refl _ w).alloc (Nat.le_refl _) _⟩
theorem blocks_next {α:Type} (f:α->List UInt8->α) (size:Nat):∀(n:Nat) (h:α) (l:List UInt8),Lz.blocks f size (n+1) h l=f (Lz.blocks f size n h l) ((l.drop (size*n)).take size)
 | 0,h,l=>rfl
 | n+1,h,l=>by
   rw[Lz.blocks,blocks_next f size n,Lz.blocks,List.drop_drop,Nat.mul_succ,Nat.add_comm size]
theorem V8.keep {R:Nat} {h:Lz.St8 UInt32} {w w':World} (k:V8 R h w) (hb:Below w.heap.size w w'):V8 R h w':=by
 have hl:=row_lt k;unfold V8 at k⊢;rw[hb.block _ hl];exact k
theorem emptyB_zero {s:ByteArray} (h:s.size=0):s.toList.isEmpty=true:=by
 rw[Lib.toList_data,List.isEmpty_iff,<-List.length_eq_zero_iff,len_of_size,h]
theorem emptyB_pos {s:ByteArray} (h:0<s.size):s.toList.isEmpty=false:=by
 rw[Lib.toList_data];cases hl:s.data.toList with
 | nil=>rw[<-len_of_size,hl]at h;simp at h
 | cons _ _=>rfl
theorem cell_row (w:World) (l:List Value) (T:TypeId) (j:Nat) (u:Value) (h:l[j]? =some u):(w.alloc (.cells l.toArray T)).cell? ((⟨w.heap.size,0,none⟩:Addr).add j)=some u:=by
 rw[addr_add,World.cell?_alloc_mark];simpa using h
theorem low8 (y:UInt32):N32 y%256=(y.toUInt8.toNat:Int):=by unfold N32;rw[UInt32.toNat_toUInt8];omega
theorem out4 (x:UInt32):([.int .u8 (N32 x / 16777216%256),.int .u8 (N32 x / 65536%256),.int .u8 (N32 x / 256%256),.int .u8 (N32 x%256)]:List Value)=u8s (Lz.bytes32 x):=by
 rw[show(16777216:Int)=2^24 by decide,show(65536:Int)=2^16 by decide,nr32 x 24 (by omega),nr32 x 16 (by omega)];rw[show N32 x / 256=N32 x / 2^8 by rfl,nr32 x 8 (by omega),low8,low8,low8,low8];rfl
theorem TabD.keep {tab:List UInt32} {w w':World} (h:TabD tab w) (hb:Below w.heap.size w w'):TabD tab w':=⟨Nat.lt_of_lt_of_le h.1 hb.size,fun i hi=>by rw[hb.cell h.1];exact h.2 i hi⟩
theorem Sum_any (tab:List UInt32) (s:ByteArray) (hs:s.size<=1073741824) (w:World) (hT:TabD tab w):Calls Tryz.prog 38 #[.string s] w fun e w'=>e=.returned (.string ⟨(Lz.sum32 tab first32 s.data.toList).toArray⟩)/\Below w.heap.size w w':=by
 obtain⟨i0,hi0,hz0,hz1,hz2⟩:=info_parts Tryz.infoU8;have cT:=Ih (fun hp B h b hb W hrow hB hT=>take_any tab hp B h b hb W hrow hB hT);have HT:=Ih hT;clear hT;go_enter Tryz.func38,Tryz.ntmps38
 go_wp2_with fail
 refine(first_any _).mono ?_;rintro e w1 ⟨rfl,hb1⟩;have hs1:=hb1.size
 go_wp2_with (first |(refine wpList_store_row rfl 78 (.tmp 3) (.tmp 10) rfl w1.heap.size _ rfl rfl 78 (rowW [0,0,0,0,0,0,0,0]).toArray (heap_new _ _) state_size rfl (rowW_one _) ?_))
 have hV1:V8 w1.heap.size first32 ((w1.alloc (.cells (rowW [0,0,0,0,0,0,0,0]).toArray 78)).setRow w1.heap.size (rowW first32.list).toArray):=setRow_heap _ _ _ _ _ _ (heap_new _ _);have hB1:Below w.heap.size w ((w1.alloc (.cells (rowW [0,0,0,0,0,0,0,0]).toArray 78)).setRow w1.heap.size (rowW first32.list).toArray):=below_setRowT (hb1.alloc hs1 _) hs1;change Code.wp _ _ _ _ ((w1.alloc (.cells (rowW [0,0,0,0,0,0,0,0]).toArray 78)).setRow w1.heap.size (rowW first32.list).toArray);generalize ((w1.alloc (.cells (rowW [0,0,0,0,0,0,0,0]).toArray 78)).setRow w1.heap.size (rowW first32.list).toArray)=W2 at hV1 hB1⊢;generalize w1.heap.size=R at hV1 hs1⊢;clear hb1;obtain⟨q,hq⟩:∃q,q=s.size / 64:=⟨_,rfl⟩;have hqI:(s.size:Int) / 64*64=((64*q:Nat):Int):=by omega
 have hqI2:(s.size:Int) / 64=(q:Int):=by omega
 obtain⟨at0,hat⟩:∃a,a=64*q:=⟨_,rfl⟩;rw[hqI,hqI2,<-hat];have Hq:=Ih hq;have Hat:=Ih hat;clear hq hqI hqI2
 go_loopw [5] (fun a wr=>∃i:Nat,a=.int .i64 ((64*i:Nat):Int)/\i<=q/\V8 R (Lz.blocks (Lz.take32 tab) 64 i first32 s.data.toList) wr/\Below w.heap.size w wr) (fun a _=>at0-(intOf a).toNat)
 case atStart=>exact⟨0,rfl,by omega,hV1,hB1⟩
 case round=>
  obtain⟨i,rfl,hi,hV,hb⟩:=hrel;obtain⟨a1,ha1⟩:∃a,a=64*i:=⟨_,rfl⟩;rw[<-ha1];by_cases hlt:i<q
  ·have h1:(a1:Int)<(at0:Int):=by omega
   have h2:(a1:Int)+64<=s.size:=by have:=Hq.out;omega
   have Ha1:=Ih ha1;clear ha1 hat
   go_wp2_with fail
   have hT1:=HT.out.keep hb;have hz:(s.extract a1 (a1+64)).size=64:=by rw[ByteArray.size_extract];omega
   refine(cT.out R w.heap.size _ _ hz wr hV hs1 hT1).mono ?_;rintro e w3 ⟨rfl,hb3,hV3⟩
   have HV3:Hid (V8 R (Lz.blocks (Lz.take32 tab) 64 (i+1) first32 s.data.toList) w3):=by
    show V8 _ _ _;rw[blocks_next,<-Ha1.out];rw[show(s.extract a1 (a1+64)).data.toList=(s.data.toList.drop a1).take 64 by simp[ByteArray.data_extract,List.take_drop]]at hV3;exact hV3
   have hb4:=hb.trans hb3;clear hV3 hV hb hb3 hT1 hz
   go_wp2_with fail
   go_roundw
   case rel=>exact⟨i+1,by rw[Ha1.out];go_num,by omega,HV3.out,hb4⟩
   case measure=>simp[intOf];omega
  ·obtain rfl:i=q:=by omega
   have ha2:a1=at0:=by omega
   subst ha2;clear ha1 hat;have h1:¬((a1:Int)<(a1:Int)):=by omega
   have h2:(a1:Int)<=s.size:=by have:=Hq.out;have:=Hat.out;omega
   have cE:=Ih (fun W=>end_any s.size (by omega) W);obtain⟨pb,hpb⟩:∃pb:ByteArray,pb=⟨(Lz.padB s.size).toArray⟩:=⟨_,rfl⟩;have hps:pb.size=72-(s.size+8)%64:=by rw[hpb];show(Lz.padB s.size).toArray.size=_;rw[List.size_toArray,Lz.padB_len]
   have hcat:¬9223372036854775807<s.size-a1+pb.size:=by omega
   have Hps:=Ih hps;rw[<-hpb]at cE;have Hpb:=Ih hpb;clear hps hpb
   go_upto_region 7 with fail
   have hR0:V8 R _ wr.drew:=hV.drew;refine wp_region_held_drew (S:=fun V=>Below w.heap.size w V) (by kernel_rfl) hb.drew (fun hHeld=>?_);generalize wr.drew=W4 at hHeld hR0⊢;refine TkD 0 (some 26) (v:=?_) rfl rfl ?_ ?_;rotate_left 2;refine TkD 1 (some 27) (v:=?_) rfl rfl ?_ ?_;rotate_left 2;refine TkD 2 (some 28) (v:=?_) rfl rfl ?_ ?_;rotate_left 2;refine TkD 3 (some 29) (v:=?_) rfl rfl ?_ ?_;rotate_left 2;refine TkD 4 (some 30) (v:=?_) rfl rfl ?_ ?_;rotate_left 2;rotate_left
   iterate 5 (rotate_left;(·(intro W hSw;(try dsimp only at hSw);(try simp only[Act.put]);(try simp only[List.setIfInBounds_toArray]);(try simp only[List.set_cons_zero,List.set_cons_succ]);go_simp;try with_reducible rfl)))
   (try simp only[Act.put]);(try simp only[List.setIfInBounds_toArray]);(try simp only[List.set_cons_zero,List.set_cons_succ])
   refine wpAnyH_ready (rs:=[5]) (by kernel_rfl) (by simp) ?_;refine AllReadyH.cons rfl (fun K hK=>?_) AllReadyH.nil;go_simp
   go_at_call 64
   refine(cE.out W4).mono ?_;rintro e w5 ⟨rfl,hb5⟩;have hV5:=hR0.keep hb5;have hB5:=hHeld.trans (hb5.mono hHeld.size);refine hK.out _ _ hB5 (fun hHeld=>?_);clear hK K hb5 hR0 hB5
   (try simp only[Act.put]);(try simp only[List.setIfInBounds_toArray]);(try simp only[List.set_cons_zero,List.set_cons_succ])
   refine TkD 6 (some 32) (v:=?_) rfl rfl ?_ ?_;rotate_left 2;refine TkD 7 (some 6) (v:=?_) rfl rfl ?_ ?_;rotate_left 2;rotate_left
   iterate 2 (rotate_left;(·(intro W hSw;(try dsimp only at hSw);(try simp only[Act.put]);(try simp only[List.setIfInBounds_toArray]);(try simp only[List.set_cons_zero,List.set_cons_succ]);go_simp;try with_reducible rfl)))
   (try simp only[Act.put]);(try simp only[List.setIfInBounds_toArray]);(try simp only[List.set_cons_zero,List.set_cons_succ])
   refine wpAnyH_done (by kernel_rfl) ?_ _
   go_wp2_with fail
   obtain⟨H,hH⟩:∃H,H=Lz.blocks (Lz.take32 tab) 64 i first32 s.data.toList:=⟨_,rfl⟩;rw[<-hH]at hV5;have HH:=Ih hH;clear hH;obtain⟨r0,hr0⟩:∃r0,r0=s.extract a1 s.size++pb:=⟨_,rfl⟩
   have hk:r0.size%64=0:=by
    have:=Hps.out;have:=Hat.out;have:=Hq.out;rw[hr0,ByteArray.size_append,ByteArray.size_extract];omega
   have hk2:r0.size<=1073742000:=by
    have:=Hps.out;rw[hr0,ByteArray.size_append,ByteArray.size_extract];omega
   rw[<-hr0];have Hr0:=Ih hr0;clear hr0;obtain⟨k,hk0⟩:∃k,r0.size=64*k:=⟨r0.size / 64,by omega⟩;have Hk0:=Ih hk0;clear hk hk0 hb hV
   go_loopw [6] (fun v wr=>∃(j:Nat) (r:ByteArray),v=.string r/\j<=k/\Hid (r.data.toList=r0.data.toList.drop (64*j))/\V8 R (Lz.blocks (Lz.take32 tab) 64 j H r0.data.toList) wr/\Below w.heap.size w wr) (fun v _=>match v with| .string r=>r.size|_=>0)
   case atStart=>exact⟨0,r0,rfl,by omega,rfl,hV5,hHeld⟩
   case round=>
    obtain⟨j,r,rfl,hj,Hr,hV,hb⟩:=hrel
    have hrs:r.size=64*(k-j):=by
     have h1:r.data.toList.length=(r0.data.toList.drop (64*j)).length:=by rw[Hr.out]
     have h2:=Hk0.out;rw[List.length_drop,len_of_size,len_of_size]at h1;omega
    by_cases hlt:j<k
    ·have hne:r.toList.isEmpty=false:=emptyB_pos (by omega);have h64:(64:Int)<=r.size:=by omega
     have Hrs:=Ih hrs;clear hrs
     go_wp2_with fail
     have hT1:=HT.out.keep hb;have hz:(r.extract 0 64).size=64:=by rw[ByteArray.size_extract];omega
     refine(cT.out R w.heap.size _ _ hz wr hV hs1 hT1).mono ?_;rintro e w3 ⟨rfl,hb3,hV3⟩
     have HV3:Hid (V8 R (Lz.blocks (Lz.take32 tab) 64 (j+1) H r0.data.toList) w3):=by
      show V8 _ _ _;rw[blocks_next,<-Hr.out];rw[show(r.extract 0 64).data.toList=r.data.toList.take 64 by simp[ByteArray.data_extract]]at hV3;exact hV3
     have hb4:=hb.trans hb3
     have Hr2:Hid ((r.extract 64 r.size).data.toList=r0.data.toList.drop (64*(j+1))):=by
      show _=_;rw[show(r.extract 64 r.size).data.toList=r.data.toList.drop 64 by simp[ByteArray.data_extract,List.take_drop];rw[List.take_of_length_le (by rw[len_of_size];omega)],Hr.out,List.drop_drop,Nat.mul_succ]
     clear hV3 hV hb hb3 hT1 hz
     go_wp2_with fail
     go_roundw
     case rel=>exact⟨j+1,_,rfl,by omega,Hr2,HV3.out,hb4⟩
     case measure=>simp[ByteArray.size_extract];omega
    ·obtain rfl:j=k:=by omega
     have hne:r.toList.isEmpty=true:=emptyB_zero (by omega)
     go_wp2_with (first |(refine wpList_load_row rfl 78 (.tmp 3) rfl R rfl 78 _ (0,0) _ hV Tryz.underlying78 rfl state_size ?_))
     obtain⟨F,hF⟩:∃F,F=Lz.blocks (Lz.take32 tab) 64 j H r0.data.toList:=⟨_,rfl⟩;rw[<-hF];have HF:=Ih hF;clear hF hV;have hidx8:=Ih (fun(i:Nat) (hi:i<8) W=>index8 F.list rfl i hi W);obtain⟨A8,hA8⟩:∃A,A=(rowW F.list).toArray:=⟨_,rfl⟩;rw[<-hA8]at hidx8⊢;clear hA8
     go_loopw [7,9,41] (fun v _ k wr=>∃i:Nat,k=.int .i64 i/\i<=8/\wr.ownsRow w.heap.size 5 1 v (4*i) (u8s ((F.list.take i).flatMap Lz.bytes32))/\Below w.heap.size w wr) (fun _ _ k _=>8-(intOf k).toNat)
     case atStart=>exact⟨0,rfl,by omega,World.ownsRow_nil _ _ _ _,hb⟩
     case round=>
      obtain⟨i8,rfl,hi8,hown,hb⟩:=hrel;have Hown:=Ih hown;have hsz:=hb.size;clear hown;by_cases hlt:i8<8
      ·have hltI:(i8:Int)<8:=by omega
       have hi8I:(0:Int)<=(i8:Int)/\(i8:Int)<8:=by omega
       have hidx1:=hidx8.out i8 hlt;obtain⟨x,hx⟩:∃x,F.list.getD i8 0=x:=⟨_,rfl⟩;rw[hx]at hidx1;have Hx:=Ih hx;clear hx
       have Hst:Hid (u8s ((F.list.take i8).flatMap Lz.bytes32)++[.int .u8 (N32 x / 16777216%256),.int .u8 (N32 x / 65536%256),.int .u8 (N32 x / 256%256),.int .u8 (N32 x%256)]=u8s ((F.list.take (i8+1)).flatMap Lz.bytes32)):=by
        show _=_;have h8:i8<F.list.length:=hlt;rw[out4,u8s_app,List.take_succ_eq_append_getElem h8,List.flatMap_append,<-Hx.out,List.getD_eq_getElem?_getD,List.getElem?_eq_getElem h8]
        simp
       go_wp2_with (at_builtin;refine wpList_append_own _ rfl (.tmp 44) (.tmp 56) 30 rfl w.heap.size 5 i0 (.int .u8 0) 1 1 Tryz.underlying30 hi0 hz0 hz1 hz2 rfl (by decide) _ _ _ rfl (Hown.out.alloc _) ⟨wr.heap.size,0,none⟩ 4 4 [.int .u8 (N32 x / 16777216%256),.int .u8 (N32 x / 65536%256),.int .u8 (N32 x / 256%256),.int .u8 (N32 x%256)] rfl rfl (cell_row wr [.int .u8 (N32 x / 16777216%256),.int .u8 (N32 x / 65536%256),.int .u8 (N32 x / 256%256),.int .u8 (N32 x%256)] _) (by simp[Value.oneCell']) (by unfold maxLen;omega) (by omega) (by simp;omega) ?_)
       intro v' w9 hown' hgrow _;have hb9:=Below.grown1 hb Hown.out hgrow hsz (Nat.le_refl _);rw[Hst.out]at hown';have Hown1:=Ih hown';clear hown' hgrow Hst hb
       go_wp2
       go_roundw
       case rel=>exact⟨i8+1,by go_num,by omega,by rw[Nat.mul_succ];exact Hown1.out,hb9⟩
       case measure=>simp[intOf];omega
      ·obtain rfl:i8=8:=by omega
       have hcv:=conv_own Hown.out;clear Hown
       go_wp2
       go_ret
       have hr0l:r0.data.toList=s.data.toList.drop (s.size / 64*64)++Lz.padB s.size:=by
        have e1:s.size / 64*64=a1:=by rw[Hat.out,<-Hq.out];omega
        rw[Hr0.out,Hpb.out,e1]
        simp[ByteArray.data_extract,ByteArray.data_append]
        rw[List.take_of_length_le (by rw[List.length_drop,len_of_size];exact Nat.le_refl _)]
       have hjl:(s.data.toList.drop (s.size / 64*64)++Lz.padB s.size).length / 64=j:=by
        rw[<-hr0l,len_of_size,Hk0.out];omega
       have e:(F.list.take 8).flatMap Lz.bytes32=Lz.sum32 tab first32 s.data.toList:=by
        unfold Lz.sum32 Lz.out32;rw[len_of_size,hjl,<-Hq.out,<-HH.out,Hq.out,<-hr0l,<-HF.out];rfl
       rw[e];exact⟨rfl,hb⟩
theorem zeros_u8 (m:Nat):Builtin.zeroCells #[Value.int .u8 0] m=(u8s (List.replicate m 0)).toArray:=by
 apply Array.ext'
 unfold Builtin.zeroCells u8s
 simp[Nat.mod_one]
 rw[List.eq_replicate_iff];constructor
 ·simp
 ·intro b hb
  simp at hb
  obtain⟨_,_,rfl⟩:=hb;rfl
def OwnB (w:World) (base:Nat) (v:Value) (n:Nat) (l:List UInt8):Prop:=
 ∃g cap cur fz,v=.slice (some ⟨g,0,none⟩) n cap/\base<=g/\w.heap[g]? =some (.cells cur 5 fz)/\(fz.2<=n\/cap<=fz.1)/\n<=cap/\cap<=maxLen/\cur.size=cap/\cur.toList.take n=u8s l/\l.length=n
theorem OwnB.kept {w w':World} {base:Nat} {v:Value} {n:Nat} {l:List UInt8} (h:OwnB w base v n l) (hb:Below w.heap.size w w'):OwnB w' base v n l:=by
 obtain⟨g,cap,cur,fz,h1,h2,h3,r⟩:=h;exact⟨g,cap,cur,fz,h1,h2,by rw[hb.block g (row_lt h3)];exact h3,r⟩
theorem OwnB.len {w:World} {base:Nat} {v:Value} {n:Nat} {l:List UInt8} (h:OwnB w base v n l):∃a c,v=.slice a n c:=by
 obtain⟨g,cap,cur,fz,h1,_⟩:=h;exact⟨_,_,h1⟩
theorem addB (g o i:Nat):(⟨g,o,none⟩:Addr).add i=⟨g,o+i,none⟩:=by unfold Addr.add;split<;>simp_all
theorem OwnB.cells {w:World} {base g:Nat} {v:Value} {n:Nat} {l:List UInt8} (h:OwnB w base v n l) (hg:v.ownBlock=some g) (j:Nat) (u:Value) (hu:(u8s l)[j]? =some u):w.cell? ((⟨g,0,none⟩:Addr).add j)=some u:=by
 obtain⟨g',cap,cur,fz,rfl,_,hgg,_,_,_,_,htake,_⟩:=h
 simp[Value.ownBlock]at hg
 subst hg;rw[addr_add,cell_of_row w g' j cur _ fz hgg];rw[<-htake,List.getElem?_take]at hu;split at hu
 ·simpa using hu
 ·cases hu
theorem storeCells_E (g o:Nat) (t:TypeId) (fz:Nat×Nat):∀(vs:List Value) (i:Nat) (cur:Array Value) (w:World),w.heap[g]? =some (.cells cur t fz)->(fz.2<=o+i\/cur.size<=fz.1)->o+i+vs.length<=cur.size->(∀v∈vs,v.oneCell'=true)->
  (storeCells ⟨g,o,none⟩ vs i).run Tryz.prog w=.ok () (w.setRow g (cur.toList.take (o+i)++vs++cur.toList.drop (o+i+vs.length)).toArray)
 | [],i,cur,w,hg,_,_,_=>by
   simp only[storeCells,List.append_nil,List.length_nil,Nat.add_zero,List.take_append_drop,Array.toArray_toList];rw[setRow_self w g cur t fz hg];rfl
 | v::rest,i,cur,w,hg,hfz,hl,h1=>by
   have hi:o+i<cur.size:=by simp at hl;omega
   have hadd:(⟨g,o,none⟩:Addr).add i=⟨g,o+i,none⟩:=addB _ _ _;have hcell:w.cell? ⟨g,o+i,none⟩=some cur[o+i]:=by simp[World.cell?,hg,hi]
   have hfro:w.frozen? ⟨g,o+i,none⟩=false:=by
    obtain⟨lo,hi'⟩:=fz;simp only[World.frozen?,hg,Bool.and_eq_false_iff,decide_eq_false_iff_not];simp only at hfz;omega
   have hst:(store ((⟨g,o,none⟩:Addr).add i) v).run Tryz.prog w=.ok () (w.setRow g (cur.setIfInBounds (o+i) v)):=by
    rw[hadd,run_store Tryz.prog w _ v _ (h1 v (by simp)),hcell]
    simp[hfro,setCell_eq_setRow w g (o+i) cur t fz v hg]
   have ih:=storeCells_E g o t fz rest (i+1) (cur.setIfInBounds (o+i) v) (w.setRow g (cur.setIfInBounds (o+i) v)) (setRow_heap w g cur _ t _ hg) (by rw[Array.size_setIfInBounds];omega) (by simp at hl⊢;omega) (fun x hx=>h1 x (by simp[hx]));simp only[storeCells,Sem.run_bind,hst,Result.andThen_ok,ih,setRow_setRow];congr 3;have e:=list_seg_step cur.toList (o+i) v rest (by simp at hl⊢;omega);simpa [Array.toList_setIfInBounds,Nat.add_assoc]using e
theorem u8s_one (l:List UInt8):∀u∈u8s l,u.oneCell'=true:=by
 intro u hu;unfold u8s at hu;obtain⟨_,_,rfl⟩:=List.mem_map.1 hu;rfl
theorem u8s_len (l:List UInt8):(u8s l).length=l.length:=by simp[u8s]
theorem OwnB.room {w:World} {base g n cap:Nat} {cur:Array Value} {fz:Nat×Nat} {l news:List UInt8} (hbg:base<=g) (hg:w.heap[g]? =some (.cells cur 5 fz)) (hfz:fz.2<=n\/cap<=fz.1) (hcm:cap<=maxLen) (hcs:cur.size=cap) (htake:cur.toList.take n=u8s l) (hll:l.length=n) (hroom:n+news.length<=cap):
  OwnB (w.setRow g (cur.toList.take n++u8s news++cur.toList.drop (n+(u8s news).length)).toArray) base (.slice (some ⟨g,0,none⟩) (n+news.length) cap) (n+news.length) (l++news)/\w.grownBy (w.setRow g (cur.toList.take n++u8s news++cur.toList.drop (n+(u8s news).length)).toArray) (some g):=by
 refine⟨⟨g,cap,_,fz,rfl,hbg,setRow_heap w g cur _ _ _ hg,by omega,hroom,hcm,?_,?_,by rw[List.length_append,hll]⟩,⟨rfl,rfl,rfl,by simp,fun k _ hk=>setRow_other w g k _ (fun e=>hk (by rw[e]))⟩⟩
 ·have:=u8s_len news
  simp;omega
 ·rw[<-u8s_app];simp only;rw[htake,List.take_left' (by rw[List.length_append,u8s_len,u8s_len,hll])]
theorem OwnB.grows {w:World} {base n cap:Nat} {l news:List UInt8} (hbase:base<=w.heap.size) (hll:l.length=n) (h63:n+news.length<=1099511627776) (row:Option Nat):
  OwnB (w.drew.alloc (.cells ((u8s l).toArray++(u8s news).toArray++Builtin.zeroCells (Value.cells (Value.int .u8 0)) (grownCap w (n+news.length) cap 5-(n+news.length))) 5)) base (.slice (some ⟨w.heap.size,0,none⟩) (n+news.length) (grownCap w (n+news.length) cap 5)) (n+news.length) (l++news)/\w.grownBy (w.drew.alloc (.cells ((u8s l).toArray++(u8s news).toArray++Builtin.zeroCells (Value.cells (Value.int .u8 0)) (grownCap w (n+news.length) cap 5-(n+news.length))) 5)) row:=by
 have hge:=grownCap_ge w (n+news.length) cap 5;refine⟨⟨w.heap.size,_,_,(0,0),rfl,hbase,heap_alloc_new w.drew _,Or.inl (Nat.zero_le _),hge,grownCap_le_maxLen w (n+news.length) cap 5 (by unfold maxLen;omega),?_,?_,by rw[List.length_append,hll]⟩,⟨rfl,rfl,rfl,by simp,fun k hk _=>heap_alloc_old w.drew _ hk⟩⟩
 ·rw[Array.size_append,Array.size_append,size_zeroCells,List.size_toArray,List.size_toArray,u8s_len,u8s_len];show _+_+_*1=_;omega
 ·rw[<-u8s_app];simp only[Array.toList_append,List.append_assoc];rw[<-List.append_assoc,List.take_left' (by rw[List.length_append,u8s_len,u8s_len,hll])]
theorem run_append_zeros (base:Nat) (ty:TypeId) (v:Value) (n m:Nat) (l:List UInt8) (w:World) (hown:OwnB w base v n l) (h63:n+m<=1099511627776) (hbase:base<=w.heap.size):
  ∃v' w',(Builtin.append_ #[30,3] ty #[v,.int .i64 (m:Int)]).run Tryz.prog w=.ok v' w'/\OwnB w' base v' (n+m) (l++List.replicate m 0)/\w.grownBy w' v.ownBlock:=by
 obtain⟨i,hi,hz,hz1,hz2⟩:=info_parts Tryz.infoU8;have hw:IntKind.i64.wrap (m:Int)=m:=by rw[IntKind.wrap_i64];omega
 have hneg:¬((m:Int)<0):=by omega
 have h48i:¬(281474976710656<(m:Int)):=by omega
 have hz8:Builtin.zeroCells (Value.cells (Value.int .u8 0)) m=(u8s (List.replicate m 0)).toArray:=zeros_u8 m;have hml:(List.replicate m (0:UInt8)).length=m:=List.length_replicate;obtain⟨g,cap,cur,fz,rfl,hbg,hg,hfz,hnc,hcm,hcs,htake,hll⟩:=id hown;by_cases hm:m=0
 ·subst hm;refine⟨_,w,?_,by simpa using hown,⟨rfl,rfl,rfl,Nat.le_refl _,fun _ _ _=>rfl⟩⟩
  simp[Builtin.append_,run_underlying Tryz.underlying30,run_underlying Tryz.underlying3,sizeOf,typeInfo,hi,hz2,asInt,asIntOf,hnc,IntKind.wrap_i64,Addr.add_lit,storeCells]
 ·by_cases hroom:n+m<=cap
  ·have hst:=storeCells_E g n 5 fz (u8s (List.replicate m 0)) 0 cur w hg (by omega) (by rw[u8s_len,hml];omega) (u8s_one _);simp only[Nat.add_zero]at hst;have hO:=OwnB.room (news:=List.replicate m 0) hbg hg hfz hcm hcs htake hll (by rw[hml];exact hroom);rw[hml]at hO;refine⟨_,_,?_,hO.1,hO.2⟩
   simp[Builtin.append_,run_underlying Tryz.underlying30,run_underlying Tryz.underlying3,sizeOf,typeInfo,zeroValue,hi,hz,hz1,hz2,asInt,asIntOf,hroom,hw,hneg,h48i,hm,hz8,Addr.add_lit,hst]
  ·have hcell:∀j u,(u8s l)[j]? =some u->w.drew.cell? ((⟨g,0,none⟩:Addr).add j)=some u:=fun j u hu=>hown.cells (g:=g) rfl j u hu;have hfo:=run_firstCells_some (P:=Tryz.prog) w.drew 1 n ⟨g,0,none⟩ n cap (u8s l) (by rw[u8s_len,hll,Nat.mul_one]) hcell;have h63':¬(9223372036854775807<((n:Int)+(m:Int))):=by omega
   have h48':¬(281474976710656<Builtin.nextslicecap (n+m) cap):=by
    have:=growslice_fits (need:=n+m) (old:=cap) (bytes:=1) (by omega) (by omega);omega
   have hO:=OwnB.grows (base:=base) (cap:=cap) (w:=w) (news:=List.replicate m 0) hbase hll (by rw[hml];exact h63) (some g);rw[hml]at hO;refine⟨_,_,?_,hO.1,hO.2⟩
   simp[Builtin.append_,run_underlying Tryz.underlying30,run_underlying Tryz.underlying3,sizeOf,typeInfo,zeroValue,hi,hz,hz1,hz2,asInt,asIntOf,hroom,hw,hneg,h48i,hm,hz8,h63',h48',Question.forced,hfo,newRow,grownCap]
   have e:(u8s l++u8s (List.replicate m 0)).toArray=(u8s l).toArray++(u8s (List.replicate m 0)).toArray:=by simp
   rw[e,Array.append_assoc]
theorem run_append_bytes (base:Nat) (ty:TypeId) (v:Value) (n m c:Nat) (l news:List UInt8) (ad:Addr) (w:World) (hown:OwnB w base v n l) (hm:news.length=m) (hnews:∀j u,(u8s news)[j]? =some u->w.cell? (ad.add j)=some u) (h63:n+m<=1099511627776) (hbase:base<=w.heap.size):
  ∃v' w',(Builtin.append_ #[30,30] ty #[v,.slice (some ad) m c]).run Tryz.prog w=.ok v' w'/\OwnB w' base v' (n+m) (l++news)/\w.grownBy w' v.ownBlock:=by
 obtain⟨i,hi,hz,hz1,hz2⟩:=info_parts Tryz.infoU8;subst hm;obtain⟨g,cap,cur,fz,rfl,hbg,hg,hfz,hnc,hcm,hcs,htake,hll⟩:=id hown;by_cases hroom:n+news.length<=cap
 ·have hst:=storeCells_E g n 5 fz (u8s news) 0 cur w hg (by omega) (by rw[u8s_len];omega) (u8s_one _);simp only[Nat.add_zero]at hst;have hf:=run_firstCells_some (P:=Tryz.prog) w 1 news.length ad news.length c (u8s news) (by rw[u8s_len,Nat.mul_one]) hnews;have hO:=OwnB.room (news:=news) hbg hg hfz hcm hcs htake hll hroom;refine⟨_,_,?_,hO.1,hO.2⟩
  simp[Builtin.append_,run_underlying Tryz.underlying30,sizeOf,typeInfo,hi,hz1,Builtin.lenOf,hroom,hf,Addr.add_lit,hst]
 ·have hr:=run_append_grow (P:=Tryz.prog) w 30 ty 5 i (.int .u8 0) Tryz.underlying30 hi hz ⟨g,0,none⟩ n cap (u8s l) (by rw[u8s_len,hll,hz1,Nat.mul_one]) (fun j u hu=>hown.cells (g:=g) rfl j u hu) ad news.length c (u8s news) (by rw[u8s_len,hz1,Nat.mul_one]) hnews (by omega) (by omega) (growslice_fits (by omega) (by rw[hz2];omega));have hO:=OwnB.grows (base:=base) (cap:=cap) (w:=w) (news:=news) hbase hll h63 (some g);exact⟨_,_,hr,hO.1,hO.2⟩
theorem wpList_append_zeros {ops:Array Oper} {rest:List Oper} {o:Oper} {a:Act} {Q:Exit->Act->World->Prop} {w:World} (hgd:o.guard=none) (s x:Operand)
  (ho:o.op=.call {callee:=.builtin .append,args:= #[s,x],argTypes:= #[30,3]}) (base:Nat) (v:Value) (n m n':Nat) (l l':List UInt8) (hs:a.eval s=v) (hx:a.eval x=.int .i64 (m:Int)) (hown:OwnB w base v n l) (hn:n+m=n') (hl:l++List.replicate m 0=l') (h63:n+m<=1099511627776) (hbase:base<=w.heap.size)
  (h:∀v' w',OwnB w' base v' n' l'->w.grownBy w' v.ownBlock->wpList Tryz.prog ops Q rest (a.put o.dst v') w'):wpList Tryz.prog ops Q (o::rest) a w:=by
 subst hn;subst hl;obtain⟨v',w',hr,h1,h2⟩:=run_append_zeros base o.type v n m l w hown h63 hbase;exact Lib.wpList_append_run w hgd s x 30 3 ho v _ hs hx v' w' hr (h v' w' h1 h2)
theorem wpList_append_bytes {ops:Array Oper} {rest:List Oper} {o:Oper} {a:Act} {Q:Exit->Act->World->Prop} {w:World} (hgd:o.guard=none) (s x:Operand)
  (ho:o.op=.call {callee:=.builtin .append,args:= #[s,x],argTypes:= #[30,30]}) (base:Nat) (v:Value) (n m c n':Nat) (l news l':List UInt8) (ad:Addr) (hs:a.eval s=v) (hx:a.eval x=.slice (some ad) m c) (hown:OwnB w base v n l) (hn:n+m=n') (hl:l++news=l') (hm:news.length=m) (hnews:∀j u,(u8s news)[j]? =some u->w.cell? (ad.add j)=some u) (h63:n+m<=1099511627776) (hbase:base<=w.heap.size)
  (h:∀v' w',OwnB w' base v' n' l'->w.grownBy w' v.ownBlock->wpList Tryz.prog ops Q rest (a.put o.dst v') w'):wpList Tryz.prog ops Q (o::rest) a w:=by
 subst hn;subst hl;obtain⟨v',w',hr,h1,h2⟩:=run_append_bytes base o.type v n m c l news ad w hown hm hnews h63 hbase;exact Lib.wpList_append_run w hgd s x 30 30 ho v _ hs hx v' w' hr (h v' w' h1 h2)
theorem OwnB.length {w:World} {base:Nat} {v:Value} {n:Nat} {l:List UInt8} (h:OwnB w base v n l):l.length=n:=by
 obtain⟨_,_,_,_,_,_,_,_,_,_,_,_,hll⟩:=h;exact hll
theorem OwnB.form {w:World} {base:Nat} {v:Value} {n:Nat} {l:List UInt8} (h:OwnB w base v n l):∃g c,v=.slice (some ⟨g,0,none⟩) n c/\base<=g/\n<=c:=by
 obtain⟨g,cap,_,_,h1,h2,_,_,h3,_⟩:=h;exact⟨g,cap,h1,h2,h3⟩
theorem OwnB.setRow {w:World} {base:Nat} {v:Value} {n:Nat} {l:List UInt8} (h:OwnB w base v n l) (H:Nat) (cs:Array Value) (hH:H<base):OwnB (w.setRow H cs) base v n l:=by
 obtain⟨g,cap,cur,fz,h1,h2,h3,r⟩:=h;exact⟨g,cap,cur,fz,h1,h2,by rw[setRow_other _ _ _ _ (by omega)];exact h3,r⟩
theorem OwnB.below {w w':World} {base:Nat} {v:Value} {n:Nat} {l:List UInt8} {B:Nat} {a:World} (h:OwnB w base v n l) (hg:w.grownBy w' v.ownBlock) (hb:Below B a w) (hB:B<=base) (hs:B<=w.heap.size):Below B a w':=
 hb.grown hg hs (fun k hk=>by
  obtain⟨g,_,_,_,rfl,h2,_⟩:=h
  simp[Value.ownBlock]at hk
  omega)
theorem ownB_made (s:ByteArray) (w:World) (hs:s.size<=1099511627776):OwnB (w.drew.alloc (.cells (bytesRow s (grownCap w s.size 0 5)) 5 ((bytesRow s (grownCap w s.size 0 5)).size,(bytesRow s (grownCap w s.size 0 5)).size+1))) w.heap.size (.slice (some ⟨w.heap.size,0,none⟩) s.size (grownCap w s.size 0 5)) s.size s.data.toList:=by
 have hge:=grownCap_ge w s.size 0 5
 have hz:(bytesRow s (grownCap w s.size 0 5)).size=grownCap w s.size 0 5:=by
  unfold bytesRow;have:s.data.size=s.size:=rfl;simp only[Array.size_append,Array.size_map,Array.size_replicate];omega
 refine⟨w.heap.size,_,_,_,rfl,Nat.le_refl _,heap_alloc_new w.drew _,Or.inr (by rw[hz];exact Nat.le_refl _),hge,grownCap_le_maxLen w s.size 0 5 (by unfold maxLen;omega),hz,?_,len_of_size s⟩;unfold bytesRow u8s;rw[Array.toList_append,Array.toList_map,List.take_left' (by rw[List.length_map,len_of_size])]
theorem OwnB.text {w:World} {base g cap n:Nat} {l:List UInt8} (h:OwnB w base (.slice (some ⟨g,0,none⟩) n cap) n l) (at0 k c:Nat) (hk:at0+k<=n):(convert 30 9 (.slice (some ⟨g,at0,none⟩) k c)).run Tryz.prog w=.ok (.string ⟨((l.drop at0).take k).toArray⟩) w:=by
 obtain⟨_,_,_,_,e,_,_,_,_,_,_,_,hll⟩:=id h;have hlk:((l.drop at0).take k).length=k:=by rw[List.length_take,List.length_drop];omega
 have:=run_convert_bytes_back (P:=Tryz.prog) w 30 9 5 ⟨g,at0,none⟩ c ((l.drop at0).take k) Tryz.underlying30 Tryz.underlying5 Tryz.underlying9 (by
  intro j hj
  have hu:(u8s l)[at0+j]? =some (.int .u8 ((((l.drop at0).take k)[j]).toNat:Int)):=by
   unfold u8s;rw[List.getElem?_map,List.getElem?_eq_getElem (by omega)]
   simp
  have:=h.cells (g:=g) rfl (at0+j) _ hu;rw[addr_add]at this
  rwa [addB])
 rwa [hlk]at this
def V8L (R:Nat) (s:Lz.St8 UInt64) (w:World):Prop:=w.heap[R]? =some (.cells (rowL s.list).toArray 85 (0,0))
theorem V8L.keep {R:Nat} {h:Lz.St8 UInt64} {w w':World} {B:Nat} (k:V8L R h w) (hb:Below B w w') (hR:R<B):V8L R h w':=by
 unfold V8L at k⊢;rw[hb.block _ hR];exact k
theorem index8L (l:List UInt64) (hl:l.length=8) (i:Nat) (hi:i<8) (w:World):(Instr.index 85 (.agg (rowL l).toArray) (.int .i64 (i:Int))).run Tryz.prog w=.ok (.int .u64 (N64 (l.getD i 0))) w:=by
 unfold Instr.index;have h0:(0:Int)<=(i:Int):=by omega
 have hl2:(rowL l)[i]? =some (.int .u64 (N64 (l.getD i 0))):=by
  unfold rowL;rw[List.getElem?_map,List.getD_eq_getElem?_getD,List.getElem?_eq_getElem (by omega)];rfl
 have hp:∀W,(part 83 (rowL l).toArray i).run Tryz.prog W=.ok (.int .u64 (N64 (l.getD i 0))) W:=fun W=>by
  unfold part
  simp[run_isAgg_plain (P:=Tryz.prog) Tryz.underlying83 rfl,hl2]
 simp[run_underlying Tryz.underlying85,asIntOf,h0,hp,hi]
def bytesN (x:UInt64) (j:Nat):List UInt8:=(List.range j).map fun i=>(x>>>(UInt64.ofNat (56-8*i))).toUInt8
theorem bytesN_succ (x:UInt64) (j:Nat):bytesN x (j+1)=bytesN x j++[(x>>>(UInt64.ofNat (56-8*j))).toUInt8]:=by
 unfold bytesN;rw[List.range_succ,List.map_append];rfl
theorem low8L (y:UInt64):N64 y%256=(y.toUInt8.toNat:Int):=by unfold N64;rw[UInt64.toNat_toUInt8];omega
theorem sum_any (tab:List UInt64) (h:Lz.St8 UInt64) (s:ByteArray) (hs:s.size<=1073741824) (w:World) (hT:TabL tab w):Calls Tryz.prog 65 #[.agg (rowL h.list).toArray,.string s] w fun e w'=>e=.returned (.string ⟨(Lz.sum64 tab h s.data.toList).toArray⟩)/\Below w.heap.size w w':=by
 obtain⟨W1,hW1⟩:∃W,W=w.alloc (.cells (rowL h.list).toArray 85):=⟨_,rfl⟩;have hV1:V8L w.heap.size h W1:=by rw[hW1];exact heap_new _ _
 have hB1:Below w.heap.size w W1:=by rw[hW1];exact(Below.refl _ w).alloc (Nat.le_refl _) _
 have hs1:w.heap.size<W1.heap.size:=by rw[hW1];simp
 have kb:=run_bytes_of_string (P:=Tryz.prog) W1 9 30 5 s Tryz.underlying9 Tryz.underlying30 Tryz.underlying5;have hO1:=ownB_made s W1 (by omega);have HW:=Ih hW1;have HT:=Ih hT;clear hW1 hT;obtain⟨cap,hcap⟩:∃cap,cap=grownCap W1 s.size 0 5:=⟨_,rfl⟩;rw[<-hcap]at kb hO1;clear hcap;obtain⟨fz,hfz⟩:∃f:Nat×Nat,f=((bytesRow s cap).size,(bytesRow s cap).size+1):=⟨_,rfl⟩;rw[<-hfz]at kb hO1;clear hfz;obtain⟨br,hbr⟩:∃b,b=bytesRow s cap:=⟨_,rfl⟩;rw[<-hbr]at kb hO1;clear hbr;go_enter Tryz.func65,Tryz.ntmps65
 go_upto_region 1 with fail
 change Code.wp _ _ _ _ (w.alloc (.cells (rowL h.list).toArray 85));rw[<-HW.out];have e1:(W1.alloc (.cells br 5 fz)).heap.size=W1.heap.size+1:=by simp
 have hbX:Below W1.heap.size W1 ((W1.alloc (.cells br 5 fz)).alloc (.cells #[.int .u8 128] 5)).drew:=(((Below.refl _ W1).alloc (Nat.le_refl _) _).alloc (by simp) _).drew;have hO1':OwnB ((W1.alloc (.cells br 5 fz)).alloc (.cells #[.int .u8 128] 5)).drew W1.heap.size (.slice (some ⟨W1.heap.size,0,none⟩) s.size cap) s.size s.data.toList:=hO1.kept ((Below.refl _ (W1.drew.alloc (.cells br 5 fz))).alloc (Nat.le_refl _) _)
 have hn1:∀j u,(u8s [128])[j]? =some u->((W1.alloc (.cells br 5 fz)).alloc (.cells #[.int .u8 128] 5)).drew.cell? ((⟨W1.heap.size+1,0,none⟩:Addr).add j)=some u:=by
  intro j u hu;have:=cell_one (W1.alloc (.cells br 5 fz)) (.int .u8 128) 5 j u hu
  rwa [e1]at this
 clear e1 hO1;obtain⟨n1,hn1'⟩:∃n,s.size+1=n:=⟨_,rfl⟩;obtain⟨r1,hr1⟩:∃n,n=n1%128:=⟨_,rfl⟩;obtain⟨q1,hq1⟩:∃n,n=240-r1:=⟨_,rfl⟩;obtain⟨m1,hm1⟩:∃n,n=q1%128:=⟨_,rfl⟩;obtain⟨n2,hn2'⟩:∃n,n1+m1=n:=⟨_,rfl⟩;obtain⟨n3,hn3'⟩:∃n,n2+8=n:=⟨_,rfl⟩;obtain⟨p1,hp1⟩:∃l,s.data.toList++[128]=l:=⟨_,rfl⟩;obtain⟨p2,hp2⟩:∃l,p1++List.replicate m1 0=l:=⟨_,rfl⟩;obtain⟨pre,hpre⟩:∃l,p2++List.replicate 8 0=l:=⟨_,rfl⟩;have f1:Int.tmod (n1:Int) 128=(r1:Int):=by rw[Int.tmod_eq_emod_of_nonneg (by omega)];omega
 have f1':(n1:Int)%128=(r1:Int):=by omega
 have f2:(240:Int)-(r1:Int)=(q1:Int):=by omega
 have f2':IntKind.i64.wrap (240-(r1:Int))=(q1:Int):=by rw[f2];exact IntWalk.i64_in _ (by omega)
 have f3:Int.tmod (q1:Int) 128=(m1:Int):=by rw[Int.tmod_eq_emod_of_nonneg (by omega)];omega
 have f3':(q1:Int)%128=(m1:Int):=by omega
 have Hm1:Hid (m1=(240-(s.size+1)%128)%128):=by show _=_;rw[hm1,hq1,hr1,<-hn1']
 have hb1:n1<=1073741825/\n2<=1073742000/\n3<=1073742100:=by omega
 have Hn:Hid (s.size+1=n1/\n1+m1=n2/\n2+8=n3):=⟨hn1',hn2',hn3'⟩;have HP:Hid (s.data.toList++[128]=p1/\p1++List.replicate m1 0=p2/\p2++List.replicate 8 0=pre):=⟨hp1,hp2,hpre⟩;clear hm1 hq1 hr1 hn1' hn2' hn3' hp1 hp2 hpre
 go_wp2_with (at_builtin;refine wpList_append_bytes rfl (.tmp 13) (.tmp 14) rfl W1.heap.size _ s.size 1 1 n1 _ [128] p1 ⟨W1.heap.size+1,0,none⟩ rfl rfl hO1' Hn.out.1 HP.out.1 rfl hn1 (by omega) hbX.size ?_)
 intro v1 w2 hO2 hg2;have hb2:Below W1.heap.size W1 w2:=hO1'.below hg2 hbX (Nat.le_refl _) hbX.size;clear hO1' hg2 hbX hn1 kb;obtain⟨a1,c1,rfl⟩:=hO2.len
 go_wp2_with (at_builtin;refine wpList_append_zeros rfl (.tmp 16) (.tmp 21) rfl W1.heap.size _ n1 m1 n2 _ p2 rfl rfl hO2 Hn.out.2.1 HP.out.2.1 (by rw[Hn.out.2.1];omega) hb2.size ?_)
 intro v2 w3 hO3 hg3;have hb3:Below W1.heap.size W1 w3:=hO2.below hg3 hb2 (Nat.le_refl _) hb2.size;clear hO2 hg3 hb2 f1 f1' f2 f2' f3 f3';obtain⟨a2,c2,rfl⟩:=hO3.len
 go_wp2_with (at_builtin;refine wpList_append_zeros rfl (.tmp 23) (.const (.int .i64 8)) rfl W1.heap.size _ n2 8 n3 _ pre rfl rfl hO3 Hn.out.2.2 HP.out.2.2 (by omega) hb3.size ?_)
 intro v3 w4 hO4 hg4;have hb4:Below W1.heap.size W1 w4:=hO3.below hg4 hb3 (Nat.le_refl _) hb3.size;clear hO3 hg4 hb3
 go_wp2_with fail
 go_loopw [5,6,25] (fun v _ k wr=>∃i:Nat,k=.int .i64 i/\i<=8/\OwnB wr W1.heap.size v (n3+i) (pre++lenT s.size i)/\Below W1.heap.size W1 wr) (fun _ _ k _=>8-(intOf k).toNat)
 case atStart=>exact⟨0,rfl,by omega,by rw[show lenT s.size 0=[]from rfl,List.append_nil];exact hO4,hb4⟩
 case round=>
  obtain⟨i,rfl,hi,hown,hb⟩:=hrel;obtain⟨g,c,rfl,hg1,hcN⟩:=hown.form;by_cases hlt:i<8
  ·have hltI:(i:Int)<8:=by omega
   obtain⟨x,hx⟩:∃x:UInt8,UInt8.ofNat (s.size*8 / 2^(56-8*i))=x:=⟨_,rfl⟩;have hxv:((s.size:Int)*8 / 2^(56-8*i)%256)=(x.toNat:Int):=by rw[<-hx,UInt8.toNat_ofNat'];simp
   have HX:Hid ((pre++lenT s.size i)++[x]=pre++lenT s.size (i+1)):=by show _=_;rw[lenT_succ,hx,List.append_assoc]
   clear hx
   go_wp2_with (at_builtin;refine wpList_append_bytes rfl (.tmp 28) (.tmp 38) rfl W1.heap.size _ (n3+i) 1 1 (n3+(i+1)) _ [x] (pre++lenT s.size (i+1)) ⟨wr.heap.size,0,none⟩ rfl rfl (hown.kept ((Below.refl _ wr).alloc (Nat.le_refl _) _)) (by omega) HX.out rfl (fun j u hu=>cell_one wr _ _ j u hu) (by omega) (Nat.le_trans hb.size (by simp)) ?_)
   intro v5 w5 hO5 hg5;have hb5:Below W1.heap.size W1 w5:=(hown.kept ((Below.refl _ wr).alloc (Nat.le_refl _) _)).below hg5 (hb.alloc hb.size _) (Nat.le_refl _) (Nat.le_trans hb.size (by simp));clear hown hg5 hb;obtain⟨g5,c5,rfl,_,_⟩:=hO5.form
   go_wp2_with fail
   go_roundw
   case rel=>exact⟨i+1,by go_num,by omega,hO5,hb5⟩
   case measure=>simp[intOf];omega
  ·obtain rfl:i=8:=by omega
   obtain⟨N,hN⟩:∃n,n=n3+8:=⟨_,rfl⟩;obtain⟨ml,hml⟩:∃l,l=pre++lenT s.size 8:=⟨_,rfl⟩;rw[<-hN]at hown hcN⊢;rw[<-hml]at hown;have hNb:N<=1073742200:=by omega
   have hNq:N%128=0:=by
    have h1:=Hm1.out;have h2:=Hn.out;omega
   have HM:Hid (ml=s.data.toList++Lz.pad64 s.size):=by
    show _=_;rw[hml,<-HP.out.2.2,<-HP.out.2.1,<-HP.out.1,Hm1.out];unfold Lz.pad64;rw[<-List.replicate_append_replicate];show _++Lz.lenB s.size=_;simp only[List.append_assoc,List.cons_append,List.nil_append]
   have hmll:ml.length=N:=hown.length;obtain⟨q,hq⟩:∃q,N=128*q:=⟨N / 128,by omega⟩;have Hq:=Ih hq;have Hmll:=Ih hmll;obtain⟨H,hH⟩:∃H,H=w.heap.size:=⟨_,rfl⟩;obtain⟨B1,hB1'⟩:∃B,B=W1.heap.size:=⟨_,rfl⟩;have hVr:V8L w.heap.size h wr:=hV1.keep hb hs1;have hBr:Below w.heap.size w wr:=hB1.trans (hb.mono (Nat.le_of_lt hs1));have hHw:H<=w.heap.size:=Nat.le_of_eq hH;have HTb:Hid (∀V,Below H w V->TabL tab V):=Ih (fun V hV=>HT.out.keep (hH▸hV));rw[<-hH]at hVr hBr hs1⊢;rw[<-hB1']at hown hs1;have hHB:H<B1:=hs1;have HHE:=Ih hH;clear hH hB1' hN hml hq hmll hV1 hb hNq hs1
   go_wp2_with fail
   go_loopw [7] (fun a wr=>∃j:Nat,a=.int .i64 ((128*j:Nat):Int)/\j<=q/\V8L H (Lz.blocks (Lz.with64 tab) 128 j h ml) wr/\OwnB wr B1 (.slice (some ⟨g,0,none⟩) N c) N ml/\Below H w wr) (fun a _=>N-(intOf a).toNat)
   case atStart=>exact⟨0,rfl,by omega,hVr,hown,hBr⟩
   case round=>
    obtain⟨j,rfl,hj,hV,hO,hB⟩:=hrel;obtain⟨a1,ha1⟩:∃a,a=128*j:=⟨_,rfl⟩;rw[<-ha1];by_cases hlt:j<q
    ·have hq1:=Hq.out;have h1:(a1:Int)<(N:Int):=by omega
     have h3:a1+128<=N:=by omega
     obtain⟨a2,ha2⟩:∃a,a=a1+128:=⟨_,rfl⟩;have fw:IntKind.i64.wrap ((a1:Int)+128)=(a2:Int):=by rw[show(a1:Int)+128=(a2:Int) by omega];exact IntWalk.i64_in _ (by omega)
     have h2:(0:Int)<=(a2:Int)/\(a2:Int)<=(c:Int):=by omega
     have h4:a1<=a2:=by omega
     have h5:a2-a1=128:=by omega
     have h6:¬c=a1:=by omega
     have Ha2:=Ih ha2;clear ha2;obtain⟨F,hF⟩:∃F,F=Lz.blocks (Lz.with64 tab) 128 j h ml:=⟨_,rfl⟩;rw[<-hF]at hV;obtain⟨bb,hbb⟩:∃b:ByteArray,b=⟨((ml.drop a1).take 128).toArray⟩:=⟨_,rfl⟩
     have hbz:bb.size=128:=by
      rw[<-len_of_size,hbb];show((ml.drop a1).take 128).length=_;rw[List.length_take,List.length_drop,Hmll.out];omega
     have HTX:Hid (∀V,OwnB V B1 (.slice (some ⟨g,0,none⟩) N c) N ml->(convert 30 9 (.slice (some ⟨g,a1,none⟩) 128 (c-a1))).run Tryz.prog V=.ok (.string bb) V):=Ih (fun V hV=>by rw[hbb];exact hV.text a1 128 (c-a1) h3);obtain⟨Y,hY⟩:∃Y,Y=Lz.with64 tab F bb.data.toList:=⟨_,rfl⟩;have cWi:Hid (∀W,TabL tab W->Calls Tryz.prog 95 #[.agg (rowL F.list).toArray,.string bb] W fun e w'=>e=.returned (.agg (rowL Y.list).toArray)/\Below W.heap.size W w'):=Ih (fun W hT=>by rw[hY];exact with_any tab F bb hbz W hT)
     have HF:Hid (Lz.blocks (Lz.with64 tab) 128 (j+1) h ml=Y):=by
      show _=_;rw[blocks_next,<-ha1,<-hF,hY,hbb]
     have Ha1:=Ih ha1;clear ha1 hF hbb h3 hq1 hY
     go_upto_region 12 with fail
     have hV0:V8L H F wr.drew:=hV;refine wp_region_held_drew (S:=fun V=>OwnB V B1 (.slice (some ⟨g,0,none⟩) N c) N ml/\Below H w V) (by kernel_rfl) ⟨hO.kept (Below.refl _ wr).drew,hB.drew⟩ (fun hHeld=>?_);generalize wr.drew=W2 at hHeld hV0⊢;refine TkD 1 (some 48) (v:=?_) rfl rfl ?_ ?_;rotate_left 2;refine TkD 2 (some 49) (v:=?_) rfl rfl ?_ ?_;rotate_left 2;refine TkD 3 (some 50) (v:=?_) rfl rfl ?_ ?_;rotate_left 2;refine TkD 4 (some 51) (v:=?_) rfl rfl ?_ ?_;rotate_left 2;refine TkD 5 (some 52) (v:=?_) rfl rfl ?_ ?_;rotate_left 2;refine TkD 6 (some 53) (v:=?_) rfl rfl ?_ ?_;rotate_left 2;rotate_left
     iterate 6 (rotate_left;(·(intro W hSw;(try dsimp only at hSw);have hTx:=HTX.out W hSw.1;(try simp only[Act.put]);(try simp only[List.setIfInBounds_toArray]);(try simp only[List.set_cons_zero,List.set_cons_succ]);go_simp;try with_reducible rfl)))
     (try simp only[Act.put]);(try simp only[List.setIfInBounds_toArray]);(try simp only[List.set_cons_zero,List.set_cons_succ])
     refine wpAnyH_ready (rs:=[0]) (by kernel_rfl) (by simp) ?_;refine AllReadyH.cons rfl (fun K hK=>?_) AllReadyH.nil;rw[if_pos (by rfl)];refine wp_load_row 85 (.tmp 2) rfl H rfl 85 _ (0,0) _ hV0 Tryz.underlying85 rfl hash_size ?_;refine hK.out _ _ hHeld (fun hHeld=>?_);clear hK K
     (try simp only[Act.put]);(try simp only[List.setIfInBounds_toArray]);(try simp only[List.set_cons_zero,List.set_cons_succ])
     refine wpAnyH_ready (rs:=[7]) (by kernel_rfl) (by simp) ?_;refine AllReadyH.cons rfl (fun K hK=>?_) AllReadyH.nil;go_simp
     go_at_call 95
     refine(cWi.out W2 (HTb.out W2 hHeld.2)).mono ?_;rintro e w5 ⟨rfl,hb5⟩;refine hK.out _ _ ⟨hHeld.1.kept hb5,hHeld.2.trans (hb5.mono (Nat.le_trans hHw hHeld.2.size))⟩ (fun hHeld2=>?_);clear hK K;have hV5:=hV0.keep hb5 (row_lt hV0)
     (try simp only[Act.put]);(try simp only[List.setIfInBounds_toArray]);(try simp only[List.set_cons_zero,List.set_cons_succ])
     refine wpAnyH_ready (rs:=[8]) (by kernel_rfl) (by simp) ?_;refine AllReadyH.cons rfl (fun K hK=>?_) AllReadyH.nil;rw[if_pos (by rfl)];refine wp_store_row 85 (.tmp 2) (.tmp 54) rfl H (rowL Y.list).toArray rfl rfl 85 _ hV5 hash_size rfl (rowL_one _) ?_;refine hK.out _ _ ⟨hHeld2.1.setRow H _ hHB,below_setRowT hHeld2.2 (Nat.le_refl _)⟩ (fun hHeld=>?_);clear hK K
     (try simp only[Act.put]);(try simp only[List.setIfInBounds_toArray]);(try simp only[List.set_cons_zero,List.set_cons_succ])
     refine wpAnyH_done (by kernel_rfl) ?_ _;have hV6:V8L H Y (w5.setRow H (rowL Y.list).toArray):=setRow_heap _ _ _ _ _ _ hV5;obtain⟨hO6,hB6⟩:=hHeld;clear hV5 hV0 hHeld2 hO hV hB;generalize w5.setRow H (rowL Y.list).toArray=w6 at hV6 hO6 hB6⊢
     go_wp2_with fail
     refine⟨⟨_,_,_,_,_,_,_,_,_,_,_,_,_,_,_,?rel,rfl⟩,?measure⟩
     case rel=>exact⟨j+1,by rw[Ha2.out,Ha1.out];go_num,by omega,by rw[HF.out];exact hV6,hO6,hB6⟩
     case measure=>simp[intOf];omega
    ·obtain rfl:j=q:=by omega
     have ha2:a1=N:=by rw[ha1,<-Hq.out]
     subst ha2;clear ha1;have h1:¬((a1:Int)<(a1:Int)):=by omega
     obtain⟨F,hF⟩:∃F,F=Lz.blocks (Lz.with64 tab) 128 j h ml:=⟨_,rfl⟩;rw[<-hF]at hV
     have HF:Hid (Lz.sum64 tab h s.data.toList=F.list.flatMap Lz.bytes64):=by
      show _=_;unfold Lz.sum64 Lz.out64;rw[len_of_size,<-HM.out,Hmll.out,hF,show a1 / 128=j by have:=Hq.out;omega]
     clear hF hO;obtain⟨i0,hi0,hz0,hz1,hz2⟩:=info_parts Tryz.infoU8
     go_wp2_with (first |(refine wpList_load_row rfl 85 (.tmp 2) rfl H rfl 85 _ (0,0) _ hV Tryz.underlying85 rfl hash_size ?_))
     have hidx8:=Ih (fun(i:Nat) (hi:i<8) W=>index8L F.list rfl i hi W);obtain⟨A8,hA8⟩:∃A,A=(rowL F.list).toArray:=⟨_,rfl⟩;rw[<-hA8]at hidx8⊢;clear hA8 hV;have hHs:H<=w.heap.size:=hHw
     go_loopw [8,10,11,56,59] (fun v _ _ k _ wr=>∃i:Nat,k=.int .i64 i/\i<=8/\wr.ownsRow H 5 1 v (8*i) (u8s ((F.list.take i).flatMap Lz.bytes64))/\Below H w wr) (fun _ _ _ k _ _=>8-(intOf k).toNat)
     case atStart=>exact⟨0,rfl,by omega,World.ownsRow_nil _ _ _ _,hB⟩
     case round=>
      obtain⟨i8,rfl,hi8,hown,hb⟩:=hrel;by_cases hlt:i8<8
      ·have hltI:(i8:Int)<8:=by omega
       have hi8I:(0:Int)<=(i8:Int)/\(i8:Int)<8:=by omega
       have hidx1:=hidx8.out i8 hlt;obtain⟨x,hx⟩:∃x,F.list.getD i8 0=x:=⟨_,rfl⟩;rw[hx]at hidx1;obtain⟨L0,hL0⟩:∃l,l=(F.list.take i8).flatMap Lz.bytes64:=⟨_,rfl⟩;rw[<-hL0]at hown
       have HN:Hid ((F.list.take (i8+1)).flatMap Lz.bytes64=L0++bytesN x 8):=by
        show _=_;have h8:i8<F.list.length:=hlt;rw[List.take_succ_eq_append_getElem h8,List.flatMap_append,<-hL0,<-hx,List.getD_eq_getElem?_getD,List.getElem?_eq_getElem h8]
        simp[bytesN,Lz.bytes64]
       clear hx hL0;obtain⟨N0,hN0⟩:∃n,n=8*i8:=⟨_,rfl⟩;rw[<-hN0]at hown;have HN0:=Ih hN0;have hN0b:N0<=64:=by omega
       clear hN0
       go_wp2_with fail
       go_loopw [8,11,59] (fun v _ k wr=>∃i:Nat,k=.int .i64 i/\i<=8/\wr.ownsRow H 5 1 v (N0+i) (u8s (L0++bytesN x i))/\Below H w wr) (fun _ _ k _=>8-(intOf k).toNat)
       case atStart=>exact⟨0,rfl,by omega,by rw[show bytesN x 0=[]from rfl,List.append_nil];exact hown,hb⟩
       case round=>
        obtain⟨i,rfl,hi,hown,hb⟩:=hrel;have Hown:=Ih hown;have hsz:=Nat.le_trans hHs hb.size;clear hown;by_cases hlt2:i<8
        ·have hltI2:(i:Int)<8:=by omega
         obtain⟨c8,hc8⟩:∃c:UInt8,(x>>>UInt64.ofNat (56-8*i)).toUInt8=c:=⟨_,rfl⟩
         have hxv:N64 x / 2^(56-8*i)%256=(c8.toNat:Int):=by
          rw[nr64 x _ (by omega),<-hc8,low8L]
         have Hst:Hid (u8s (L0++bytesN x i)++[.int .u8 (c8.toNat:Int)]=u8s (L0++bytesN x (i+1))):=by
          show _=_;rw[u8s_snoc,bytesN_succ,hc8,List.append_assoc]
         clear hc8
         go_wp2_with (at_builtin;refine wpList_append_own _ rfl (.tmp 62) (.tmp 69) 30 rfl H 5 i0 (.int .u8 0) 1 1 Tryz.underlying30 hi0 hz0 hz1 hz2 rfl (by decide) _ _ _ rfl (Hown.out.alloc _) ⟨wr.heap.size,0,none⟩ 1 1 [.int .u8 (c8.toNat:Int)] rfl rfl (cell_one _ _ _) (by simp[Value.oneCell']) (by unfold maxLen;omega) (by omega) (by simp;omega) ?_)
         intro v' w9 hown' hgrow _;have hb9:=Below.grown1 hb Hown.out hgrow hsz (Nat.le_refl _);rw[Hst.out]at hown';have Hown1:=Ih hown';clear hown' hgrow Hst hb
         go_wp2_with fail
         go_roundw
         case rel=>exact⟨i+1,by go_num,by omega,Hown1.out,hb9⟩
         case measure=>simp[intOf];omega
        ·obtain rfl:i=8:=by omega
         have hltI2:¬(((8:Nat):Int)<8):=by omega
         go_wp2_with fail
         go_roundw
         case rel=>exact⟨i8+1,by go_num,by omega,by rw[HN.out,show 8*(i8+1)=N0+8 by have:=HN0.out;omega];exact Hown.out,hb⟩
         case measure=>simp[intOf];omega
      ·obtain rfl:i8=8:=by omega
       have hltI:¬(((8:Nat):Int)<8):=by omega
       have hcv:=conv_own hown;clear hown
       go_wp2_with fail
       go_ret;rw[HF.out,show F.list.take 8=F.list from rfl];exact⟨rfl,HHE.out▸hb⟩
def first512:Lz.St8 UInt64:=⟨0x6a09e667f3bcc908,0xbb67ae8584caa73b,0x3c6ef372fe94f82b,0xa54ff53a5f1d36f1,0x510e527fade682d1,0x9b05688c2b3e6c1f,0x1f83d9abfb41bd6b,0x5be0cd19137e2179⟩
theorem row512:(#[.int .u64 7640891576956012808,.int .u64 13503953896175478587,.int .u64 4354685564936845355,.int .u64 11912009170470909681,.int .u64 5840696475078001361,.int .u64 11170449401992604703,.int .u64 2270897969802886507,.int .u64 6620516959819538809]:Array Value)=(rowL first512.list).toArray:=by kernel_rfl
def first384:Lz.St8 UInt64:=⟨0xcbbb9d5dc1059ed8,0x629a292a367cd507,0x9159015a3070dd17,0x152fecd8f70e5939,0x67332667ffc00b31,0x8eb44a8768581511,0xdb0c2e0d64f98fa7,0x47b5481dbefa4fa4⟩
theorem row384:(#[.int .u64 14680500436340154072,.int .u64 7105036623409894663,.int .u64 10473403895298186519,.int .u64 1526699215303891257,.int .u64 7436329637833083697,.int .u64 10282925794625328401,.int .u64 15784041429090275239,.int .u64 5167115440072839076]:Array Value)=(rowL first384.list).toArray:=by kernel_rfl
theorem sum64_len (tab:List UInt64) (h:Lz.St8 UInt64) (l:List UInt8):(Lz.sum64 tab h l).length=64:=Lz.out64_len _
theorem Sum512_any (tab:List UInt64) (s:ByteArray) (hs:s.size<=1073741824) (w:World) (hT:TabL tab w):Calls Tryz.prog 40 #[.string s] w (RStr (Lz.sum64 tab first512 s.data.toList) w):=by
 have cS:=Ih (sum_any tab first512 s hs w hT);clear hT;go_enter Tryz.func40,Tryz.ntmps40
 go_wp2_with fail
 rw[row512];refine cS.out.mono ?_;rintro e w1 ⟨rfl,hb1⟩
 go_wp2_with fail
 go_ret;exact⟨_,rfl,rfl,hb1⟩
theorem Sum384_any (tab:List UInt64) (s:ByteArray) (hs:s.size<=1073741824) (w:World) (hT:TabL tab w):Calls Tryz.prog 39 #[.string s] w (RStr ((Lz.sum64 tab first384 s.data.toList).take 48) w):=by
 have cS:=Ih (sum_any tab first384 s hs w hT);obtain⟨l,hl⟩:∃l,l=Lz.sum64 tab first384 s.data.toList:=⟨_,rfl⟩;have hll:l.length=64:=by rw[hl];exact sum64_len _ _ _
 rw[<-hl]at cS⊢;clear hT hl;go_enter Tryz.func39,Tryz.ntmps39
 go_wp2_with fail
 rw[row384];refine cS.out.mono ?_;rintro e w1 ⟨rfl,hb1⟩;obtain⟨T,hT⟩:∃T:ByteArray,T=⟨l.toArray⟩:=⟨_,rfl⟩;have hz:T.size=64:=by rw[hT];show l.toArray.size=64;rw[List.size_toArray,hll]
 have hd:T.data.toList=l:=by rw[hT]
 have Hd:=Ih hd;rw[<-hT];clear hT hd hll
 go_wp2_with fail
 go_ret;exact⟨_,rfl,Ih (by rw[<-Hd.out];simp[ByteArray.data_extract]),hb1⟩
end Go.Proofs.YtjhccadmmnjpeaaGreatDoor
namespace Lz
open Go
def num3 (r:Bs):Nat->Nat
 | 0=>0
 | k+1=>num3 r k*256+(r.getD k 0).toNat
theorem num3_lt (r:Bs):∀k,num3 r k<256^k
 | 0=>by simp[num3]
 | k+1=>by
   have h:=num3_lt r k;have h2:=(r.getD k 0).toNat_lt;rw[num3,Nat.pow_succ];omega
def enc1 (r:Bs) (j:Nat):UInt8:=if r.length<j then 61 else let64 (num3 r 3 / 2^(18-6*j))
def encN (r:Bs) (j:Nat):Bs:=(List.range j).map (enc1 r)
theorem encN_succ (r:Bs) (j:Nat):encN r (j+1)=encN r j++[enc1 r j]:=by
 unfold encN;rw[List.range_succ,List.map_append];rfl
theorem enc64_group (r:Bs) (h:r≠[]):enc64 r=encN r 4++enc64 (r.drop 3):=by
 match r,h with
 | [a],_=>
   have e:num3 [a] 3=a.toNat*65536:=by simp[num3];omega
   simp[enc64,four64,encN,enc1,e,List.range,List.range.loop]
 | [a,b],_=>
   have e:num3 [a,b] 3=a.toNat*65536+b.toNat*256:=by simp[num3];omega
   simp[enc64,four64,encN,enc1,e,List.range,List.range.loop]
 | a::b::c::r,_=>
   have e:num3 (a::b::c::r) 3=a.toNat*65536+b.toNat*256+c.toNat:=by simp[num3];omega
   have h2:¬(a::b::c::r).length<2:=by simp
   have h3:¬(a::b::c::r).length<3:=by simp
   have h1:¬(a::b::c::r).length<1:=by simp
   have h0:¬(a::b::c::r).length<0:=by simp
   rw[enc64];unfold encN;simp only[List.range,List.range.loop,List.map_cons,List.map_nil];unfold enc1;rw[if_neg h0,if_neg h1,if_neg h2,if_neg h3,e]
   simp[four64]
theorem enc64_len':∀s:Bs,(enc64 s).length=(s.length+2) / 3*4
 | []=>rfl
 | [a]=>by simp[enc64,four64]
 | [a,b]=>by simp[enc64,four64]
 | a::b::c::r=>by
   have h:=enc64_len' r;rw[enc64,List.length_append,h]
   simp[four64]
   omega
end Lz
namespace Go.Proofs.YtjhccadmmnjpeaaGreatDoor
open Go.RowKit
def b64B:ByteArray:=⟨#[65,66,67,68,69,70,71,72,73,74,75,76,77,78,79,80,81,82,83,84,85,86,87,88,89,90,97,98,99,100,101,102,103,104,105,106,107,108,109,110,111,112,113,114,115,116,117,118,119,120,121,122,48,49,50,51,52,53,54,55,56,57,43,47]⟩
theorem b64_one:∀d:Fin 64,b64B[d.val]'(Nat.lt_of_lt_of_le d.isLt (by decide))=Lz.b64.getD d.val 0:=by decide +kernel
theorem b64_at (d:Nat) (h:d<64) {h':d<b64B.size}:b64B[d]'h'=Lz.b64.getD d 0:=b64_one ⟨d,h⟩
theorem or_add (p c:Nat) (hp:p%256=0) (hp2:p<16777216) (hc:c<256):bits .or .u32 (p:Int) (c:Int)=((p+c:Nat):Int):=by
 have h:=or32 (UInt32.ofNat p) (UInt32.ofNat c);rw[UInt32.toNat_ofNat',UInt32.toNat_ofNat',Nat.mod_eq_of_lt (by omega),Nat.mod_eq_of_lt (by omega),UInt32.toNat_or,UInt32.toNat_ofNat',UInt32.toNat_ofNat',Nat.mod_eq_of_lt (by omega),Nat.mod_eq_of_lt (by omega)]at h;rw[h];obtain⟨q,rfl⟩:∃q,p=2^8*q:=⟨p / 256,by omega⟩;rw[Nat.two_pow_add_eq_or_of_lt hc]
theorem and_63 (x:Nat) (hx:x<4294967296):bits .and .u32 (x:Int) 63=((x%64:Nat):Int):=by
 have h:=and32 (UInt32.ofNat x) 63;rw[UInt32.toNat_ofNat',Nat.mod_eq_of_lt (by omega),UInt32.toNat_and,UInt32.toNat_ofNat',Nat.mod_eq_of_lt (by omega)]at h;rw[show((63:Int))=(((63:UInt32).toNat:Nat):Int) by rfl,h];rw[show(63:UInt32).toNat=2^6-1 by rfl,Nat.and_two_pow_sub_one_eq_mod]
theorem Encode64_any (s:ByteArray) (hs:s.size<=1073741824) (w:World):Calls Tryz.prog 37 #[.string s] w (RStr (Lz.enc64 s.data.toList) w):=by
 have hfresh:=Lib.fresh_isBuilder 72 5 w;have HS:=Ih hs;go_enter Tryz.func37,Tryz.ntmps37
 go_wp2_with fail
 go_loopw [0,4,5,6,7,15,31] (fun sv _ _ _ _ _ _ wr=>∃(r:ByteArray) (out:List UInt8),sv=.string r/\Hid (out++Lz.enc64 r.data.toList=Lz.enc64 s.data.toList)/\Lib.IsBuilder 72 5 w.heap.size w.heap.size (Lib.byteCells out) wr/\Below w.heap.size w wr) (fun sv _ _ _ _ _ _ _=>match sv with| .string r=>r.size|_=>0)
 case atStart=>exact⟨s,[],rfl,rfl,hfresh,(Below.refl _ w).alloc (Nat.le_refl _) _⟩
 case round=>
  obtain⟨r,out,rfl,HO,hB,hb⟩:=hrel
  have hlen:out.length+(r.size+2) / 3*4=(s.size+2) / 3*4:=by
   have:=congrArg List.length HO.out;rw[List.length_append,Lz.enc64_len',Lz.enc64_len',len_of_size,len_of_size]at this;exact this
  have hsz:=HS.out;have hob:out.length<=1500000000:=by omega
  clear hlen hsz;by_cases h0:0<r.size
  ·have hne:r.toList.isEmpty=false:=emptyB_pos h0
   go_wp2_with fail
   go_loop [4,5,15] (fun n _ k=>∃j:Nat,k=.int .i64 (j:Int)/\j<=3/\n=.int .u32 ((Lz.num3 r.data.toList j:Nat):Int)) (fun _ _ k=>3-(intOf k).toNat)
   case atStart=>exact⟨0,rfl,by omega,rfl⟩
   case round=>
    obtain⟨j,rfl,hj,rfl⟩:=hrel;obtain⟨x,hx⟩:∃x,x=Lz.num3 r.data.toList j:=⟨_,rfl⟩;have hxl:=Lz.num3_lt r.data.toList j;rw[<-hx]at hxl⊢;by_cases hlt:j<3
    ·have hltI:(j:Int)<3:=by omega
     have hx2:x<65536:=by
      obtain rfl|rfl|rfl:j=0\/j=1\/j=2:=by omega
      all_goals omega
     obtain⟨y0,hy0⟩:∃y,y=x*256:=⟨_,rfl⟩;have fw:IntKind.u32.wrap ((x:Int)*256)=(y0:Int):=by rw[show(x:Int)*256=(y0:Int) by omega];exact IntWalk.u32_in _ (by omega)
     by_cases hjs:j<r.size
     ·have hjI:(j:Int)<(r.size:Int):=by omega
      obtain⟨c,hc⟩:∃c,c=r[j]:=⟨_,rfl⟩;have hcv:(r[j].toNat:Int)=(c.toNat:Int):=by rw[hc]
      have hcl:=c.toNat_lt;have fc:IntKind.u32.wrap (c.toNat:Int)=(c.toNat:Int):=IntWalk.u32_in _ (by omega);obtain⟨y,hy⟩:∃y,y=y0+c.toNat:=⟨_,rfl⟩;have fo:bits .or .u32 (y0:Int) (c.toNat:Int)=(y:Int):=by rw[hy];exact or_add y0 c.toNat (by omega) (by omega) (by omega)
      have HN:Hid (Lz.num3 r.data.toList (j+1)=y):=by
       show _=_;rw[Lz.num3,<-hx,hy,hy0,hc,List.getD_eq_getElem?_getD,get_of_lt hjs];rfl
      clear hx hc hy hy0
      go_wp2_with fail
      go_round
      case rel=>exact⟨j+1,by go_num,by omega,by rw[HN.out]⟩
      case measure=>simp[intOf];omega
     ·have hjI:¬(j:Int)<(r.size:Int):=by omega
      have HN:Hid (Lz.num3 r.data.toList (j+1)=y0):=by
       show _=_;rw[Lz.num3,<-hx,hy0,List.getD_eq_getElem?_getD,List.getElem?_eq_none (by rw[len_of_size];omega)];rfl
      clear hx hy0
      go_wp2_with fail
      go_round
      case rel=>exact⟨j+1,by go_num,by omega,by rw[HN.out]⟩
      case measure=>simp[intOf];omega
    ·obtain rfl:j=3:=by omega
     have Hx:=Ih hx;clear hx
     go_wp2_with fail
     go_loopw [6,7,31] (fun _ _ k wx=>∃j:Nat,k=.int .i64 (j:Int)/\j<=4/\Lib.IsBuilder 72 5 w.heap.size w.heap.size (Lib.byteCells (out++Lz.encN r.data.toList j)) wx/\Below w.heap.size w wx) (fun _ _ k _=>4-(intOf k).toNat)
     case atStart=>exact⟨0,rfl,by omega,by rw[show Lz.encN r.data.toList 0=[]from rfl,List.append_nil];exact hB,hb⟩
     case round=>
      obtain⟨j,rfl,hj,hB,hb⟩:=hrel;by_cases hlt:j<4
      ·have hltI:(j:Int)<4:=by omega
       have hEl:(Lz.encN r.data.toList j).length=j:=by unfold Lz.encN;rw[List.length_map,List.length_range]
       obtain⟨d,hd⟩:∃d,d=x / 2^(18-6*j)%64:=⟨_,rfl⟩;have hd64:d<64:=by rw[hd];exact Nat.mod_lt _ (by decide)
       have hdI:(0:Int)<=(d:Int)/\(d:Int)<64:=by omega
       have fa:bits .and .u32 ((x:Int) / 2^(18-6*j)) 63=(d:Int):=by
        rw[hd,<-and_63 _ (Nat.lt_of_le_of_lt (Nat.div_le_self _ _) (by omega))]
        simp
       obtain⟨lt,hlt2⟩:∃c,c=Lz.b64.getD d 0:=⟨_,rfl⟩;have hidx:∀h',(⟨#[65,66,67,68,69,70,71,72,73,74,75,76,77,78,79,80,81,82,83,84,85,86,87,88,89,90,97,98,99,100,101,102,103,104,105,106,107,108,109,110,111,112,113,114,115,116,117,118,119,120,121,122,48,49,50,51,52,53,54,55,56,57,43,47]⟩:ByteArray)[d]'h'=lt:=fun h'=>by rw[hlt2];exact b64_at d hd64
       have HC:Hid (lt=Lz.let64 (Lz.num3 r.data.toList 3 / 2^(18-6*j))):=by
        show _=_;rw[<-Hx.out,hlt2,hd];rfl
       clear hd hlt2;by_cases hgt:r.size<j
       ·have HE:Hid (Lz.encN r.data.toList (j+1)=Lz.encN r.data.toList j++[61]):=by
         show _=_;rw[Lz.encN_succ];unfold Lz.enc1;rw[if_pos (by rw[len_of_size];exact hgt)]
        clear hdI
        go_wp2_with fail
        refine(WriteByte_any w.heap.size w.heap.size _ _ wr hB (by simp[Lib.byteCells];omega) hb.size).mono ?_;rintro e w2 ⟨rfl,hm,hb2⟩
        have hm2:Lib.IsBuilder 72 5 w.heap.size w.heap.size (Lib.byteCells (out++Lz.encN r.data.toList (j+1))) w2:=by
         rw[HE.out,<-List.append_assoc,<-byteCells_snoc];exact hm
        have hb3:=hb.trans hb2;clear hm hb2 hB hb
        go_wp2_with fail
        go_roundw
        case rel=>exact⟨j+1,by go_num,by omega,hm2,hb3⟩
        case measure=>simp[intOf];omega
       ·have HE:Hid (Lz.encN r.data.toList (j+1)=Lz.encN r.data.toList j++[lt]):=by
         show _=_;rw[Lz.encN_succ];unfold Lz.enc1;rw[if_neg (by rw[len_of_size];exact hgt)];rw[HC.out]
        clear HC
        go_wp2_with fail
        refine(WriteByte_any w.heap.size w.heap.size _ _ wr hB (by simp[Lib.byteCells];omega) hb.size).mono ?_;rintro e w2 ⟨rfl,hm,hb2⟩
        have hm2:Lib.IsBuilder 72 5 w.heap.size w.heap.size (Lib.byteCells (out++Lz.encN r.data.toList (j+1))) w2:=by
         rw[HE.out,<-List.append_assoc,<-byteCells_snoc];exact hm
        have hb3:=hb.trans hb2;clear hm hb2 hB hb
        go_wp2_with fail
        go_roundw
        case rel=>exact⟨j+1,by go_num,by omega,hm2,hb3⟩
        case measure=>simp[intOf];omega
      ·obtain rfl:j=4:=by omega
       have hd3:(r.extract (min 3 (r.size:Int)).toNat r.size).data.toList=r.data.toList.drop 3:=by
        have hl:=len_of_size r;by_cases h3:3<=r.size
        ·rw[show(min 3 (r.size:Int)).toNat=3 by omega]
         simp[ByteArray.data_extract]
         rw[List.take_of_length_le (by rw[List.length_drop,hl];exact Nat.le_refl _)]
        ·rw[show(min 3 (r.size:Int)).toNat=r.size by omega,List.drop_eq_nil_iff.2 (by omega)]
         simp
       have hHE:(out++Lz.encN r.data.toList 4)++Lz.enc64 (r.extract (min 3 (r.size:Int)).toNat r.size).data.toList=Lz.enc64 s.data.toList:=by
        rw[hd3,List.append_assoc,<-Lz.enc64_group _ (fun e=>by have:=len_of_size r;rw[e]at this;simp at this;omega),HO.out]
       have hme:(r.extract (min 3 (r.size:Int)).toNat r.size).size<r.size:=by rw[ByteArray.size_extract];omega
       have HHE:=Ih hHE;have Hme:=Ih hme;clear hd3 hHE hme
       go_wp2_with fail
       exact⟨⟨_,out++Lz.encN r.data.toList 4,rfl,HHE,hB,hb⟩,Hme.out⟩
  ·have hne:r.toList.isEmpty=true:=emptyB_zero (by omega)
   have HF:Hid (out=Lz.enc64 s.data.toList):=by
    show _=_;rw[<-HO.out,List.length_eq_zero_iff.1 (show r.data.toList.length=0 by rw[len_of_size];omega)]
    simp[Lz.enc64]
   go_wp2_with fail
   refine(Tryz.Builder_String_any _ _ _ _ hB hb.size).mono ?_;rintro e w5 ⟨rfl,hb5⟩
   go_wp2_with fail
   go_ret;exact⟨_,rfl,Ih HF.out,hb.trans hb5⟩
def brL:List UInt8:=(List.range 256).map fun k=>Lz.usual1 (UInt8.ofNat k)
def BrRep (w:World) (g:Nat):Prop:=w.heap[g]? =some (.cells (u8s brL).toArray 227 (0,0))
theorem BrRep.kept {w w':World} {g:Nat} (h:BrRep w g) (hk:∀(k:Nat) (cs:Array Value) (t:TypeId),w.heap[k]? =some (.cells cs t (0,0))->t=227->w'.heap[k]? =w.heap[k]?):BrRep w' g:=by
 unfold BrRep at h⊢;rw[hk g _ _ h rfl];exact h
theorem BrRep.set {w:World} {g b:Nat} {d s e:Int} {rv ov:Value} (h:BrRep w g) (hr:RepRow w b d s e rv ov) (k:Nat) (v:Value):BrRep (w.setCell ⟨b,k,none⟩ v) g:=
 h.kept fun j _ _ hj ht=>setCell_other (fun e=>by
  have e':j=b:=e;rw[e',show w.heap[b]? =_ from hr]at hj;injection hj with hj
  injection hj with _ h2 _
  rw[ht]at h2;exact absurd h2 (by decide)) v
def RBuilt2 (B b:Nat) (d s e:Int) (w:World) (w':World):Prop:=Below B w w'/\∃g,RepRow w' b d s e (.iface 228 (.pointer (some ⟨g,0,none⟩))) (.slice none 0 0)/\BrRep w' g
theorem slowP (B b:Nat) (e:Int) (rv ov:Value) (w:World) (hBb:B<=b) (hrow:RepRow w b 0 0 e rv ov)
  (cB:∀W,Below B w W->W=w.setCell ⟨b,1,none⟩ (.int .i32 1)->Calls Tryz.prog 81 #[.pointer (some ⟨b,0,none⟩)] W fun e' W'=>e'=.returned (.tuple #[])/\RBuilt2 B b 0 1 e W W'):
  Calls Tryz.prog 130 #[.pointer (some ⟨b,0,none⟩),.func (.func 81) #[.pointer (some ⟨b,0,none⟩)] #[]] w fun e' w'=>e'=.returned (.tuple #[])/\RBuilt2 B b 1 0 e w w':=by
 have c0:=rowAt hrow 0 (.int .u32 0) rfl;have c1:=rowAt hrow 1 (.int .i32 0) rfl;have f0:=rowFz hrow 0;have f1:=rowFz hrow 1;have hl:=run_call_load (P:=Tryz.prog) Tryz.func192 (by kernel_rfl) (by kernel_rfl) (by kernel_rfl) .u32 (by kernel_rfl) (w:=w.setCell ⟨b,1,none⟩ (.int .i32 1)) (a:=⟨b,0,none⟩) (x:=0) ((World.cell?_setCell_other _ ⟨b,1,none⟩ ⟨b,0,none⟩ _ (by simp)).trans c0);have hnot:∀(x:Bool) (w:World),(Op.unary .not (.bool x)).run Tryz.prog w=.ok (.bool (!x)) w:=fun _ _=>rfl;have hb1:Below B w (w.setCell ⟨b,1,none⟩ (.int .i32 1)):=(Below.refl B w).setCell (p:=⟨b,1,none⟩) hBb _;have CB:=Ih (cB _ hb1 rfl);have Hb1:=Ih hb1;clear cB hb1
 go_enter_defers Tryz.func130,Tryz.ntmps130
 go_wp2_with (first |(go_at_call 193;refine(lockO ⟨b,1,none⟩ _ (by go_simp) (by go_simp)).mono ?_;rintro e w' ⟨rfl,rfl⟩)|(go_at_call 129;go_in)|(go_at_call 81;refine CB.out.mono ?_;rintro e2 w2 ⟨rfl,hw2⟩))
 obtain⟨hbw,g,hr2,hbs⟩:=hw2;have d0:=rowAt hr2 0 (.int .u32 0) rfl;have d1:=rowAt hr2 1 (.int .i32 1) rfl;have z0:=rowFz hr2 0;have z1:=rowFz hr2 1;have hr3:RepRow (w2.drew.setCell ⟨b,0,none⟩ (.int .u32 1)) b 1 1 e (.iface 228 (.pointer (some ⟨g,0,none⟩))) (.slice none 0 0):=RepRow.set (w:=w2.drew) hr2 0 (.int .u32 1) (by simp);have hbs3:BrRep (w2.drew.setCell ⟨b,0,none⟩ (.int .u32 1)) g:=BrRep.set (w:=w2.drew) (hbs.kept fun _ _ _ _ _=>rfl) hr2 0 _;have hr4:=RepRow.set hr3 1 (.int .i32 0) (d':=1) (s':=0) (rv':=.iface 228 (.pointer (some ⟨g,0,none⟩))) (ov':=.slice none 0 0) (by simp);have hbs4:=BrRep.set hbs3 hr3 1 (.int .i32 0);refine leaves_cons (f:=195) (args:= #[.pointer (some ⟨b,0,none⟩),.bool true]) (by simp) (by simp[go_sem]) ?_;refine(storeO ⟨b,0,none⟩ (.int .u32 0) .returning _ d0 z0).mono ?_;rintro e3 u3 w3 ⟨rfl,rfl,rfl⟩;refine leaves_cons (f:=194) (args:= #[.pointer (some ⟨b,1,none⟩)]) (by simp[settle]) (by simp[go_sem]) ?_;refine(unlockO ⟨b,1,none⟩ _ _ (rowAt hr3 1 _ rfl) (rowFz hr3 1)).mono ?_;rintro e3 u3 w3 ⟨rfl,rfl,rfl⟩
 have hB4:Below B w ((w2.drew.setCell ⟨b,0,none⟩ (.int .u32 1)).setCell ⟨b,1,none⟩ (.int .i32 0)):=((Hb1.out.trans hbw).drew.setCell (p:=⟨b,0,none⟩) hBb _).setCell (p:=⟨b,1,none⟩) hBb _;have HF:Hid (RBuilt2 B b 1 0 e w ((w2.drew.setCell ⟨b,0,none⟩ (.int .u32 1)).setCell ⟨b,1,none⟩ (.int .i32 0))):=⟨hB4,g,hr4,hbs4⟩;clear hr2 hr3 hr4 hbs hbs3 hbs4 hB4
 simp[Leaves,settle,results,Tryz.results130]
 exact HF.out
theorem doP (B b:Nat) (e:Int) (rv ov:Value) (w:World) (hBb:B<=b) (hrow:RepRow w b 0 0 e rv ov)
  (cB:∀W,Below B w W->W=w.setCell ⟨b,1,none⟩ (.int .i32 1)->Calls Tryz.prog 81 #[.pointer (some ⟨b,0,none⟩)] W fun e' W'=>e'=.returned (.tuple #[])/\RBuilt2 B b 0 1 e W W'):
  Calls Tryz.prog 80 #[.pointer (some ⟨b,0,none⟩),.func (.func 81) #[.pointer (some ⟨b,0,none⟩)] #[]] w fun e' w'=>e'=.returned (.tuple #[])/\RBuilt2 B b 1 0 e w w':=by
 have c0:=rowAt hrow 0 (.int .u32 0) rfl;have hl:=run_call_load (P:=Tryz.prog) Tryz.func192 (by kernel_rfl) (by kernel_rfl) (by kernel_rfl) .u32 (by kernel_rfl) c0;have hnot:∀(x:Bool) (w:World),(Op.unary .not (.bool x)).run Tryz.prog w=.ok (.bool (!x)) w:=fun _ _=>rfl;have cS:=Ih (slowP B b e rv ov w hBb hrow cB);clear cB;go_enter Tryz.func80,Tryz.ntmps80
 go_wp2_with (first |(go_at_call 130;refine cS.out.mono ?_;rintro e w' ⟨rfl,hw2⟩)|(go_at_call 129;go_in))
 go_end0
 exact⟨rfl,hw2⟩
def rsP:List ByteArray:=[⟨#[45]⟩,⟨#[43]⟩,⟨#[95]⟩,⟨#[47]⟩]
def RNewP (B:Nat) (w:World) (e:Ending) (w':World):Prop:=∃b G c,e=.returned (.pointer (some ⟨b,0,none⟩))/\B<=b/\RepRow w' b 0 0 0 .nilIface (.slice (some ⟨G,0,none⟩) 4 c)/\w'.ownsRow B 9 1 (.slice (some ⟨G,0,none⟩) 4 c) 4 (rsP.map Value.string)/\Below w.heap.size w w'
theorem NewRP_any (B:Nat) (p:Addr) (c:Nat) (w:World) (hB:B<=w.heap.size) (hc:∀(j:Nat) (u:Value),(rsP.map Value.string)[j]? =some u->w.cell? (p.add j)=some u):
  Calls Tryz.prog 53 #[.slice (some p) 4 c] w (RNewP B w):=by
 obtain⟨i0,hi,hz0,hz1,hz2⟩:=info_parts infoTxt;have Hc:=Ih hc;clear hc;go_enter Tryz.func53,Tryz.ntmps53
 go_wp2_with (at_builtin;refine wpList_append_own _ rfl (.const (.slice none 0 0)) (.tmp 8) 22 rfl B 9 i0 (.string ⟨#[]⟩) 1 16 Tryz.underlying22 hi hz0 hz1 hz2 rfl (by decide) _ 0 [] rfl (World.ownsRow_nil _ B _ _) p 4 c (rsP.map Value.string) rfl rfl Hc.out (by decide) (by unfold maxLen;omega) (by omega) (by omega) ?_)
 intro v' w' hown hg hnil;have hb:Below w.heap.size w w':=(Below.refl _ w).grown hg (Nat.le_refl _) (fun k hk=>by simp[Value.ownBlock]at hk);have hP:PathOwn w' B v' rsP:=.inl hown;obtain⟨a',c',hv',_,hcells⟩:=hP.form;have hv2:v'=.slice a' 4 c':=hv';subst hv2;obtain⟨G,off,rfl,_,_⟩:=hcells 0 ⟨#[45]⟩ rfl
 have hoff:off=0:=by
  rcases hown.2 with⟨h,_⟩|⟨g,cap,cur,h,_⟩
  ·cases h
  ·injection h with h _ _;injection h with h;injection h with h1 h2 _
 subst hoff;have Hown:Hid (w'.ownsRow B 9 1 (.slice (some ⟨G,0,none⟩) 4 c') 4 (rsP.map Value.string)):=Ih hown;have hwz:=hb.size;clear hown hg hP hcells hnil hv'
 go_wp2_with fail
 go_ret;refine⟨_,G,c',rfl,by omega,?_,Hown.out.alloc _,below_call hb ((Below.refl _ _).alloc (Nat.le_refl _) _)⟩;show(w'.heap.push _)[w'.heap.size]? =_
 simp
theorem idx95 (W:World):(Instr.index 9 (.string ⟨#[95]⟩) (.int .i64 0)).run Tryz.prog W=.ok (.int .u8 95) W:=by kernel_rfl
theorem idx47 (W:World):(Instr.index 9 (.string ⟨#[47]⟩) (.int .i64 0)).run Tryz.prog W=.ok (.int .u8 47) W:=by kernel_rfl
theorem idx45 (W:World):(Instr.index 9 (.string ⟨#[45]⟩) (.int .i64 0)).run Tryz.prog W=.ok (.int .u8 45) W:=by kernel_rfl
theorem idx43 (W:World):(Instr.index 9 (.string ⟨#[43]⟩) (.int .i64 0)).run Tryz.prog W=.ok (.int .u8 43) W:=by kernel_rfl
theorem brZero:Tryz.zeroCells227=Array.replicate 256 (.int .u8 0):=by kernel_rfl
theorem brSize:(Tryz.prog.info? 227).map (·.size)=some 256:=by kernel_rfl
def idL (k:Nat):List UInt8:=(List.range k).map UInt8.ofNat++List.replicate (256-k) 0
theorem idL_set (k:Nat) (hk:k<256):(u8s (idL k)).toArray.setIfInBounds k (.int .u8 (k:Int))=(u8s (idL (k+1))).toArray:=by
 rw[List.setIfInBounds_toArray];congr 1;have hv:(Value.int .u8 (k:Int))=.int .u8 ((UInt8.ofNat k).toNat:Int):=by rw[UInt8.toNat_ofNat',Nat.mod_eq_of_lt (show k<2^8 by omega)]
 unfold u8s idL;rw[hv,<-List.map_set (f:=fun c:UInt8=>Value.int .u8 c.toNat),List.set_append_right _ _ (by rw[List.length_map,List.length_range];exact Nat.le_refl _),List.length_map,List.length_range,Nat.sub_self,show 256-k=(256-(k+1))+1 by omega,List.replicate_succ,List.set_cons_zero,List.range_succ,List.map_append (f:=UInt8.ofNat),List.append_assoc];rfl
theorem idL_len (k:Nat) (hk:k<=256):(idL k).length=256:=by
 unfold idL;rw[List.length_append,List.length_map,List.length_range,List.length_replicate];omega
theorem idL_end:(((u8s (idL 256)).toArray.setIfInBounds 95 (.int .u8 47)).setIfInBounds 45 (.int .u8 43))=(u8s brL).toArray:=by
 have h:((idL 256).set 95 47).set 45 43=brL:=by decide +kernel
 rw[<-h];unfold u8s;rw[List.setIfInBounds_toArray,List.setIfInBounds_toArray,List.map_set,List.map_set];rfl
def RBuildP (w:World) (e:Ending) (w':World):Prop:=∃g,e=.returned (.iface 228 (.pointer (some ⟨g,0,none⟩)))/\Below w.heap.size w w'/\BrRep w' g
theorem buildP_any (B b:Nat) (e:Int) (G c:Nat) (w:World) (hr:RepRow w b 0 1 e .nilIface (.slice (some ⟨G,0,none⟩) 4 c)) (hown:w.ownsRow B 9 1 (.slice (some ⟨G,0,none⟩) 4 c) 4 (rsP.map Value.string)):
  Calls Tryz.prog 131 #[.pointer (some ⟨b,0,none⟩)] w (RBuildP w):=by
 have r4:=rowAt hr 4 (.slice (some ⟨G,0,none⟩) 4 c) rfl
 have hGc:∀k x,rsP[k]? =some x->w.cell? ⟨G,k,none⟩=some (.string x):=fun k x hk=>by
  have:=hown.cells (g:=G) rfl k (.string x) (by rw[List.getElem?_map,hk];rfl);rw[addr_add]at this;exact this
 have o0:=hGc 0 ⟨#[45]⟩ rfl;have o1:=hGc 1 ⟨#[43]⟩ rfl;have o2:=hGc 2 ⟨#[95]⟩ rfl;have o3:=hGc 3 ⟨#[47]⟩ rfl;have hGl:G<w.heap.size:=World.block_lt_of_cell? _ _ o0;have HGc:=Ih hGc;clear hown hr hGc;go_enter Tryz.func131,Tryz.ntmps131
 go_wp2_with fail
 refine wp_loop_rounds 3 ?_;rw[rounds_succ]
 go_wp2_with fail
 rw[rounds_succ]
 go_wp2_with fail
 rw[rounds_succ];clear o0 o1 o2 o3 r4
 go_wp2_with (refine wpList_store_row rfl 227 (.tmp 6) (.tmp 60) rfl w.heap.size (Array.replicate 256 (.int .u8 0)) rfl (by rw[<-brZero];rfl) 227 Tryz.zeroCells227 (by show(w.heap.push _)[w.heap.size]? =_;simp) (by rw[Array.size_replicate];exact brSize) (by rw[brZero]) (by kernel_rfl) ?_)
 have hR1:((w.alloc (.cells Tryz.zeroCells227 227)).setRow w.heap.size (Array.replicate 256 (.int .u8 0))).heap[w.heap.size]? =some (.cells (u8s (idL 0)).toArray 227 (0,0)):=by
  rw[show(u8s (idL 0)).toArray=Array.replicate 256 (.int .u8 0) by kernel_rfl];exact setRow_heap _ _ Tryz.zeroCells227 _ _ _ (heap_new _ _)
 have hb1:Below w.heap.size w ((w.alloc (.cells Tryz.zeroCells227 227)).setRow w.heap.size (Array.replicate 256 (.int .u8 0))):=below_setRowT ((Below.refl _ w).alloc (Nat.le_refl _) _) (Nat.le_refl _);generalize (w.alloc (.cells Tryz.zeroCells227 227)).setRow w.heap.size (Array.replicate 256 (.int .u8 0))=w1 at hR1 hb1⊢;obtain⟨g0,hg0⟩:∃g,g=w.heap.size:=⟨_,rfl⟩;rw[<-hg0]at hR1 hb1⊢;have hGg:G<g0:=by rw[hg0];exact hGl
 have Hg0:=Ih hg0;clear hg0 hGl
 go_wp2_with fail
 go_loopw [7,61] (fun _ k wr=>∃i:Nat,k=.int .i64 i/\i<=256/\wr.heap[g0]? =some (.cells (u8s (idL i)).toArray 227 (0,0))/\Below g0 w wr) (fun _ k _=>256-(intOf k).toNat)
 case atStart=>exact⟨0,rfl,by omega,hR1,hb1⟩
 case round=>
  obtain⟨i,rfl,hi,hR,hb⟩:=hrel;clear hR1 hb1;by_cases hlt:i<256
  ·have hltI:(i:Int)<256:=by omega
   have hi0:(0:Int)<=(i:Int)/\(i:Int)<256:=by omega
   have fm:IntKind.u8.wrap (i:Int)=(i:Int):=IntWalk.u8_in _ (by omega);have fm2:(i:Int)%256=(i:Int):=by omega
   obtain⟨v,hv⟩:∃v,(u8s (idL i)).toArray[i]? =some v:=⟨_,Array.getElem?_eq_getElem (by rw[List.size_toArray,u8s_len,idL_len _ hi];exact hlt)⟩;have hc:=rowAt hR i v hv;have hf:=rowFz hR i;have hR2:=rowSet hR i (.int .u8 (i:Int)) (idL_set i hlt);have hb2:=hb.setCell (p:=⟨g0,i,none⟩) (Nat.le_refl _) (.int .u8 (i:Int));clear hv
   go_wp2_with fail
   go_roundw
   case rel=>exact⟨i+1,by go_num,by omega,hR2,hb2⟩
   case measure=>simp[intOf];omega
  ·obtain rfl:i=256:=by omega
   have hltI:¬(((256:Nat):Int)<256):=by omega
   have c2:wr.cell? ⟨G,2,none⟩=some (.string ⟨#[95]⟩):=by rw[hb.cell (p:=⟨G,2,none⟩) hGg];exact HGc.out 2 ⟨#[95]⟩ rfl
   have c3:wr.cell? ⟨G,3,none⟩=some (.string ⟨#[47]⟩):=by rw[hb.cell (p:=⟨G,3,none⟩) hGg];exact HGc.out 3 ⟨#[47]⟩ rfl
   have hidx95:=fun W:World=>idx95 W;have hidx47:=fun W:World=>idx47 W;have hidx45:=fun W:World=>idx45 W;have hidx43:=fun W:World=>idx43 W;have hc:=rowAt hR 95 (.int .u8 95) (by kernel_rfl);have hf:=rowFz hR 95;have hR2:(wr.setCell ⟨g0,95,none⟩ (.int .u8 47)).heap[g0]? =some (.cells ((u8s (idL 256)).toArray.setIfInBounds 95 (.int .u8 47)) 227 (0,0)):=rowSet hR 95 (.int .u8 47) rfl;have hb2:=hb.setCell (p:=⟨g0,95,none⟩) (Nat.le_refl _) (.int .u8 47)
   go_wp2_with fail
   refine wp_loop_rounds 3 ?_;rw[rounds_succ]
   go_wp2_with fail
   generalize wr.setCell ⟨g0,95,none⟩ (.int .u8 47)=w2 at hR2 hb2⊢;clear c2 c3 hc hf hR hb;have c0:w2.cell? ⟨G,0,none⟩=some (.string ⟨#[45]⟩):=by rw[hb2.cell (p:=⟨G,0,none⟩) hGg];exact HGc.out 0 ⟨#[45]⟩ rfl
   have c1:w2.cell? ⟨G,1,none⟩=some (.string ⟨#[43]⟩):=by rw[hb2.cell (p:=⟨G,1,none⟩) hGg];exact HGc.out 1 ⟨#[43]⟩ rfl
   have hc:=rowAt hR2 45 (.int .u8 45) (by kernel_rfl);have hf:=rowFz hR2 45;have hR3:=rowSet hR2 45 (.int .u8 43) idL_end;have hb3:=hb2.setCell (p:=⟨g0,45,none⟩) (Nat.le_refl _) (.int .u8 43);rw[rounds_succ]
   go_wp2_with fail
   generalize w2.setCell ⟨g0,45,none⟩ (.int .u8 43)=w3 at hR3 hb3⊢;clear c0 c1 hc hf hR2 hb2;rw[rounds_succ]
   go_wp2_with fail
   go_ret;exact⟨g0,rfl,Hg0.out▸hb3,hR3⟩
theorem boP_any (B b:Nat) (e:Int) (G c:Nat) (w:World) (hBb:B<=b) (hr:RepRow w b 0 1 e .nilIface (.slice (some ⟨G,0,none⟩) 4 c)) (hown:w.ownsRow B 9 1 (.slice (some ⟨G,0,none⟩) 4 c) 4 (rsP.map Value.string)) (hB:B<=w.heap.size):
  Calls Tryz.prog 81 #[.pointer (some ⟨b,0,none⟩)] w fun e' w'=>e'=.returned (.tuple #[])/\RBuilt2 B b 0 1 e w w':=by
 have cB:=Ih (buildP_any B b e G c w hr hown);have HR:=Ih hr;have hbl:b<w.heap.size:=row_lt hr;clear hr hown;go_enter Tryz.func81,Tryz.ntmps81
 go_wp2_with fail
 refine cB.out.mono ?_;rintro e1 w1 ⟨g,rfl,hb1,hbs⟩;have hr1:RepRow w1 b 0 1 e .nilIface (.slice (some ⟨G,0,none⟩) 4 c):=(hb1.block b hbl).trans HR.out;have c3:=rowAt hr1 3 .nilIface rfl;have f3:=rowFz hr1 3;have hr2:=RepRow.set hr1 3 (.iface 228 (.pointer (some ⟨g,0,none⟩))) (d':=0) (s':=1) (rv':=.iface 228 (.pointer (some ⟨g,0,none⟩))) (ov':=.slice (some ⟨G,0,none⟩) 4 c) (by simp);have hbs2:=BrRep.set hbs hr1 3 (.iface 228 (.pointer (some ⟨g,0,none⟩)));have c4:=rowAt hr2 4 (.slice (some ⟨G,0,none⟩) 4 c) rfl;have f4:=rowFz hr2 4;have hr3:=RepRow.set hr2 4 (.slice none 0 0) (d':=0) (s':=1) (rv':=.iface 228 (.pointer (some ⟨g,0,none⟩))) (ov':=.slice none 0 0) (by simp);have hbs3:=BrRep.set hbs2 hr2 4 (.slice none 0 0);have hbb:=((hb1.mono hB).setCell (p:=⟨b,3,none⟩) hBb (.iface 228 (.pointer (some ⟨g,0,none⟩)))).setCell (p:=⟨b,4,none⟩) hBb (.slice none 0 0);have HF:Hid (RBuilt2 B b 0 1 e w ((w1.setCell ⟨b,3,none⟩ (.iface 228 (.pointer (some ⟨g,0,none⟩)))).setCell ⟨b,4,none⟩ (.slice none 0 0))):=⟨hbb,g,hr3,hbs3⟩;clear hr1 hr2 hr3 hbs hbs2 hbs3 hbb
 go_wp2_with fail
 go_end0
 exact⟨rfl,HF.out⟩
theorem brCell {w:World} {g:Nat} (h:BrRep w g) (c:UInt8):w.cell? ⟨g,c.toNat,none⟩=some (.int .u8 ((Lz.usual1 c).toNat:Int)):=by
 refine rowAt h c.toNat _ ?_;rw[List.getElem?_toArray];unfold u8s brL;have hc:c.toNat<256:=c.toNat_lt;rw[List.getElem?_map,List.getElem?_map,List.getElem?_range hc]
 simp
theorem us_same {l:List UInt8} {i:Nat} {c:UInt8} (hc:l[i]? =some c) (h:Lz.usual1 c=c):Lz.usual (l.take (i+1))++l.drop (i+1)=Lz.usual (l.take i)++l.drop i:=by
 obtain⟨hi,rfl⟩:=List.getElem?_eq_some_iff.1 hc;rw[List.take_succ_eq_append_getElem hi,List.drop_eq_getElem_cons hi];unfold Lz.usual;rw[List.map_append,List.append_assoc,List.map_cons,List.map_nil,h];rfl
theorem us_set {l:List UInt8} {i:Nat} {c:UInt8} (hc:l[i]? =some c):(Lz.usual (l.take i)++l.drop i).set i (Lz.usual1 c)=Lz.usual (l.take (i+1))++l.drop (i+1):=by
 obtain⟨hi,rfl⟩:=List.getElem?_eq_some_iff.1 hc;have hl:(Lz.usual (l.take i)).length=i:=by unfold Lz.usual;rw[List.length_map,List.length_take];omega
 rw[List.set_append_right _ _ (by omega),hl,Nat.sub_self,List.drop_eq_getElem_cons hi,List.set_cons_zero,List.take_succ_eq_append_getElem hi];unfold Lz.usual;rw[List.map_append,List.append_assoc];rfl
def BufAt (l:List UInt8) (n H i:Nat) (v:Value) (wr:World):Prop:=(v=.slice none 0 0/\Lz.usual (l.take i)=l.take i)\/(∃g cap,v=.slice (some ⟨g,0,none⟩) n cap/\H<=g/\ByteRow wr g (Lz.usual (l.take i)++l.drop i))
theorem brr_any (g:Nat) (s:ByteArray) (hs:s.size<=1000000000) (w:World) (hb:BrRep w g):Calls Tryz.prog 363 #[.pointer (some ⟨g,0,none⟩),.string s] w (RStr (Lz.usual s.data.toList) w):=by
 have HB:=Ih hb;have hgl:g<w.heap.size:=row_lt hb;obtain⟨l,hl⟩:∃l,l=s.data.toList:=⟨_,rfl⟩;have hll:l.length=s.size:=by rw[hl];exact len_of_size s
 rw[<-hl];have HL:=Ih hl;have Hll:=Ih hll;clear hb hl hll;go_enter Tryz.func363,Tryz.ntmps363
 go_wp2_with fail
 go_loopw [5,6,7] (fun v k _ wr=>∃i:Nat,k=.int .i64 i/\i<=s.size/\BufAt l s.size w.heap.size i v wr/\Below w.heap.size w wr) (fun _ k _ _=>s.size-(intOf k).toNat)
 case atStart=>exact⟨0,rfl,by omega,Or.inl ⟨rfl,rfl⟩,Below.refl _ w⟩
 case round=>
  obtain⟨i,rfl,hi,hV,hbw⟩:=hrel;by_cases hlt:i<s.size
  ·have hltI:(i:Int)<(s.size:Int):=by omega
   have hi0:(0:Int)<=(i:Int):=by omega
   obtain⟨c,hc⟩:∃c,c=s[i]:=⟨_,rfl⟩;have hcI:(s[i].toNat:Int)=(c.toNat:Int):=by rw[hc]
   have hcg:l[i]? =some c:=by rw[HL.out,get_of_lt hlt,hc]
   have hc256:(0:Int)<=(c.toNat:Int)/\(c.toNat:Int)<256:=by have:=c.toNat_lt;omega
   have hcr:∀W,Below w.heap.size w W->W.cell? ⟨g,c.toNat,none⟩=some (.int .u8 ((Lz.usual1 c).toNat:Int)):=fun W hW=>by rw[hW.cell (p:=⟨g,c.toNat,none⟩) hgl];exact brCell HB.out c
   clear hc;by_cases hu:Lz.usual1 c=c
   ·have hcell:=hcr wr hbw;rw[hu]at hcell
    have HN:Hid (∀v,BufAt l s.size w.heap.size i v wr->BufAt l s.size w.heap.size (i+1) v wr):=by
     show ∀v,_;intro v hV;rcases hV with⟨h1,h2⟩|⟨g1,cap,h1,h2,h3⟩
     ·refine Or.inl ⟨h1,?_⟩;obtain⟨hil,rfl⟩:=List.getElem?_eq_some_iff.1 hcg;rw[List.take_succ_eq_append_getElem hil];unfold Lz.usual at h2⊢;rw[List.map_append,h2,List.map_cons,hu];rfl
     ·exact Or.inr ⟨g1,cap,h1,h2,by rw[us_same hcg hu];exact h3⟩
    have HV:=Ih hV;clear hV hcr hcg hu
    go_wp2_with fail
    go_roundw
    case rel=>exact⟨i+1,by go_num,by omega,HN.out _ HV.out,hbw⟩
    case measure=>simp[intOf];omega
   ·have hset:=us_set hcg;obtain⟨d,hd⟩:∃d,d=Lz.usual1 c:=⟨_,rfl⟩;rw[<-hd]at hu hcr hset
    have hne:((d.toNat:Int) != (c.toNat:Int))=true:=by
     rw[bne_iff_ne];intro e;exact hu (UInt8.toNat_inj.1 (by omega))
    have Hset:=Ih hset;have hcell:=hcr wr hbw;clear hd hu hset hcg;rcases hV with⟨rfl,h2⟩|⟨g1,cap,rfl,h2,h3⟩
    ·have hnil:=Lib.run_eql_slice_nil (P:=Tryz.prog) wr 30 5 none 0 0 0 0 Tryz.underlying30;have kb:=run_bytes_of_string (P:=Tryz.prog) wr 9 30 5 s Tryz.underlying9 Tryz.underlying30 Tryz.underlying5;have hmade:=byteRow_made wr s (grownCap wr s.size 0 5) 5;obtain⟨cap,hcap⟩:∃cap,cap=grownCap wr s.size 0 5:=⟨_,rfl⟩;rw[<-hcap]at kb hmade;clear hcap;rw[<-HL.out,show l=Lz.usual (l.take i)++l.drop i by rw[h2,List.take_append_drop]]at hmade;have hbX:Below w.heap.size w (wr.alloc (.cells (bytesRow s cap) 5 ((bytesRow s cap).size,(bytesRow s cap).size+1))).drew:=(hbw.alloc hbw.size _).drew;obtain⟨W5,hW5⟩:∃W,W=wr.drew.alloc (.cells (bytesRow s cap) 5 ((bytesRow s cap).size,(bytesRow s cap).size+1)):=⟨_,rfl⟩;have hbX:Below w.heap.size w W5:=by rw[hW5];exact hbX
     have hmade:ByteRow W5 wr.heap.size (Lz.usual (l.take i)++l.drop i):=by rw[hW5];exact hmade
     rw[<-hW5]at kb;obtain⟨x0,hx0⟩:∃x,(Lz.usual (l.take i)++l.drop i)[i]? =some x:=⟨_,List.getElem?_eq_getElem (by rw[h2,List.take_append_drop,Hll.out];exact hlt)⟩;obtain⟨hc5,hf5⟩:=hmade i x0 hx0;have hcell5:=hcr W5 hbX;have HR:=Ih (hmade.set i d);rw[Hset.out]at HR;have HB6:=Ih (hbX.setCell (p:=⟨wr.heap.size,i,none⟩) hbw.size (.int .u8 (d.toNat:Int)));have hws:=hbw.size;clear hmade hbX hW5 h2 hcr hx0
     go_wp2_with fail
     go_roundw
     case rel=>exact⟨i+1,by go_num,by omega,Or.inr ⟨wr.heap.size,cap,rfl,hws,HR.out⟩,HB6.out⟩
     case measure=>simp[intOf];omega
    ·have hnil:=Lib.run_eql_slice_nil (P:=Tryz.prog) wr 30 5 (some ⟨g1,0,none⟩) s.size cap 0 0 Tryz.underlying30
     have hil:i<(Lz.usual (l.take i)++l.drop i).length:=by
      unfold Lz.usual;rw[List.length_append,List.length_map,List.length_take,List.length_drop,Hll.out];omega
     obtain⟨x0,hx0⟩:∃x,(Lz.usual (l.take i)++l.drop i)[i]? =some x:=⟨_,List.getElem?_eq_getElem hil⟩;obtain⟨hc5,hf5⟩:=h3 i x0 hx0;have HR:=Ih (h3.set i d);rw[Hset.out]at HR;have HB6:=Ih (hbw.setCell (p:=⟨g1,i,none⟩) h2 (.int .u8 (d.toNat:Int)));clear h3 hcr hil hx0
     go_wp2_with fail
     go_roundw
     case rel=>exact⟨i+1,by go_num,by omega,Or.inr ⟨g1,cap,rfl,h2,HR.out⟩,HB6.out⟩
     case measure=>simp[intOf];omega
  ·obtain rfl:i=s.size:=by omega
   have htk:l.take s.size=l:=List.take_of_length_le (by rw[Hll.out];exact Nat.le_refl _);have hdr:l.drop s.size=[]:=List.drop_eq_nil_iff.2 (by rw[Hll.out];exact Nat.le_refl _);have hltI:¬((s.size:Int)<(s.size:Int)):=by omega
   rcases hV with⟨rfl,h2⟩|⟨g1,cap,rfl,h2,h3⟩
   ·have hnil:=Lib.run_eql_slice_nil (P:=Tryz.prog) wr 30 5 none 0 0 0 0 Tryz.underlying30;have HF:Hid (s.data.toList=Lz.usual l):=by show _=_;rw[<-HL.out,<-htk,h2,htk]
    clear htk hdr h2
    go_wp2_with fail
    go_ret;exact⟨s,rfl,HF,hbw⟩
   ·have hnil:=Lib.run_eql_slice_nil (P:=Tryz.prog) wr 30 5 (some ⟨g1,0,none⟩) s.size cap 0 0 Tryz.underlying30;rw[htk,hdr,List.append_nil]at h3;have hul:(Lz.usual l).length=s.size:=by unfold Lz.usual;rw[List.length_map,Hll.out]
    have hcv:=run_convert_bytes_back (P:=Tryz.prog) wr 30 9 5 ⟨g1,0,none⟩ cap (Lz.usual l) Tryz.underlying30 Tryz.underlying5 Tryz.underlying9 (fun j hj=>by rw[addr_add];exact(h3 j _ (List.getElem?_eq_getElem hj)).1);rw[hul]at hcv;clear htk hdr h3 hul
    go_wp2_with fail
    go_ret;exact⟨_,rfl,Ih rfl,hbw⟩
theorem replP_any (B b G c:Nat) (s:ByteArray) (hs:s.size<=1000000000) (w:World) (hBb:B<=b) (hr:RepRow w b 0 0 0 .nilIface (.slice (some ⟨G,0,none⟩) 4 c)) (hown:w.ownsRow B 9 1 (.slice (some ⟨G,0,none⟩) 4 c) 4 (rsP.map Value.string)) (hB:B<=w.heap.size):
  Calls Tryz.prog 54 #[.pointer (some ⟨b,0,none⟩),.string s] w fun e w'=>∃u:ByteArray,e=.returned (.string u)/\Hid (u.data.toList=Lz.usual s.data.toList)/\Below B w w':=by
 have hown2:=hown.kept (grown_setCell w ⟨b,1,none⟩ (.int .i32 1)) (.inr (by
  simp[Value.ownBlock]
  intro e;rcases hown.2 with⟨h,_⟩|⟨g1,cap,cur,h,_,hh,_⟩
  ·cases h
  ·injection h with h _ _;injection h with h;injection h with h1 _ _
   have h2:w.heap[b]? =_:=hr;rw[<-e,h1,hh]at h2;injection h2 with h2
   injection h2 with _ h3 _
   exact absurd h3 (by decide)))
 have cD:=Ih (doP B b 0 .nilIface (.slice (some ⟨G,0,none⟩) 4 c) w hBb hr (fun W hW hWe=>by
  have hr2:RepRow W b 0 1 0 .nilIface (.slice (some ⟨G,0,none⟩) 4 c):=by rw[hWe];exact RepRow.set hr 1 (.int .i32 1) (by simp)
  rw[<-hWe]at hown2;exact boP_any B b 0 G c W hBb hr2 hown2 (Nat.le_trans hB hW.size)))
 have hmf:∀(fn:Fn) (first cap:Array Value) (w:World),(Instr.makeFunc fn first cap).run Tryz.prog w=.ok (.func fn first cap) w:=fun _ _ _ _=>rfl;clear hown hown2 hr;go_enter Tryz.func54,Tryz.ntmps54
 go_wp2_with fail
 refine cD.out.mono ?_;rintro e w1 ⟨rfl,hb1,g,hr1,hbs⟩;have c3:=rowAt hr1 3 (.iface 228 (.pointer (some ⟨g,0,none⟩))) rfl;have nu:∀w,(nilAhead 478 228 (.pointer (some ⟨g,0,none⟩)) "Replace").run Tryz.prog w=.ok (some false) w:=fun _=>by kernel_rfl
 have mU:∀w,(Go.method 478 228 (.pointer (some ⟨g,0,none⟩)) "Replace").run Tryz.prog w=.ok (363,.pointer (some ⟨g,0,none⟩)) w:=fun _=>by kernel_rfl
 have cR:=Ih (brr_any g s hs w1 hbs);clear hr1 hbs
 go_wp2_with fail
 refine cR.out.mono ?_;rintro e w2 ⟨u,rfl,hu,hb2⟩
 go_wp2_with fail
 go_ret;exact⟨u,rfl,hu,hb1.trans (hb2.mono (Nat.le_trans hB hb1.size))⟩
theorem Plain_any (s:ByteArray) (hs:s.size<=1000000000) (w:World):Calls Tryz.prog 32 #[.string s] w (RStr (Lz.usual s.data.toList) w):=by
 have hcell:∀(j:Nat) (x:Value),(rsP.map Value.string)[j]? =some x->(w.alloc (.cells #[.string ⟨#[45]⟩,.string ⟨#[43]⟩,.string ⟨#[95]⟩,.string ⟨#[47]⟩] 9)).cell? ((⟨w.heap.size,0,none⟩:Addr).add j)=some x:=by
  intro j x hj;rw[addr_add,World.cell?_alloc_mark];rw[<-Array.getElem?_toList];exact hj
 have cN:=Ih (NewRP_any w.heap.size ⟨w.heap.size,0,none⟩ 4 _ (by simp) hcell);clear hcell;go_enter Tryz.func32,Tryz.ntmps32
 go_wp2_with fail
 refine cN.out.mono ?_;rintro e w2 ⟨b,G,c,rfl,hBb,hr,hown,hb2⟩;have hb2':Below w.heap.size w w2:=((Below.refl _ w).alloc (Nat.le_refl _) _).trans (hb2.mono (by simp));have cR:=Ih (replP_any w.heap.size b G c s hs w2 hBb hr hown hb2'.size);clear hr hown
 go_wp2_with fail
 refine cR.out.mono ?_;rintro e w3 ⟨v,rfl,hv,hb3⟩
 go_wp2_with fail
 go_ret;exact⟨v,rfl,hv,hb2'.trans hb3⟩
end Go.Proofs.YtjhccadmmnjpeaaGreatDoor
namespace Lz
open Go
theorem parse_read {s:Bs} {b:Option UrlL} {u:UrlL} (e:parseU s b=.ok u):s.length<=4000/\readU s b=.ok u:=by
 unfold parseU at e;split at e
 ·cases e
 ·refine⟨by omega,?_⟩;cases b with
  | none=>exact e
  | some x=>
    simp only at e;split at e
    ·exact e
    ·cases e
theorem parse_wq0 {s:Bs} {u:UrlL} (e:parseU s none=.ok u):wq u<=12120:=by
 obtain⟨h1,h2⟩:=parse_read e;have h3:=readU_len h2 (fun _ h=>by cases h);have h4:bq none=0:=rfl;omega
theorem parse_wq {s:Bs} {b:Option UrlL} {u:UrlL} (e:parseU s b=.ok u) (hb:∀x,b=some x->∃t,parseU t none=.ok x):wq u<=24240:=by
 cases b with
 | none=>have:=parse_wq0 e;omega
 | some x=>
   obtain⟨t,ht⟩:=hb x rfl;obtain⟨h1,h2⟩:=parse_read e;have h3:=readU_len h2 (fun y h=>by cases h;exact parse_form ht);have h4:bq (some x)=wq x:=rfl;have h5:=parse_wq0 ht;omega
theorem parse_err {s:Bs} {b:Option UrlL} {n:Nat} (e:parseU s b=.er n):n=3\/n=2\/n=70\/n=71\/n=72\/n=81\/n=82:=by
 unfold parseU at e;split at e
 ·injection e with e;omega
 ·cases b with
  | none=>have:=readU_err e;omega
  | some x=>
    simp only at e;split at e
    ·have:=readU_err e;omega
    ·injection e with e;omega
end Lz
namespace Go.Proofs.YtjhccadmmnjpeaaGreatDoor
open Go.RowKit
attribute [local go_sem ↓] Go.wp_at_zero Go.wp_at_succ
theorem SameA_any (s t:ByteArray) (hs:s.size<=140737488355328) (w:World):Calls Tryz.prog 48 #[.string s,.string t] w (RBool (decide (Lz.low s.data.toList=Lz.low t.data.toList)) w):=by
 obtain⟨q,hq⟩:∃q,q=decide (Lz.low s.data.toList=Lz.low t.data.toList):=⟨_,rfl⟩;rw[<-hq];have Hq:=Ih hq;clear hq;by_cases hl:s.size=t.size
 ·have hlI:((s.size:Int) != (t.size:Int))=false:=by rw[hl];simp
  have Hl:=Ih hl;clear hl;go_enter Tryz.func48,Tryz.ntmps48
  go_wp2_with fail
  go_loopw [13] (fun k wr=>∃i:Nat,k=.int .i64 i/\i<=s.size/\Hid ((Lz.low s.data.toList).take i=(Lz.low t.data.toList).take i)/\Below w.heap.size w wr) (fun k _=>s.size-(intOf k).toNat)
  case atStart=>exact⟨0,rfl,Nat.zero_le _,Ih (by simp),Below.refl _ _⟩
  case round=>
   obtain⟨i,rfl,hi,hT,hbw⟩:=hrel;by_cases hlt:i<s.size
   ·have hltI:(i:Int)<(s.size:Int):=by omega
    have hlt2:i<t.size:=by rw[<-Hl.out];exact hlt
    have hltI2:(i:Int)<(t.size:Int):=by omega
    have hi0:(0:Int)<=(i:Int):=by omega
    obtain⟨a,ha⟩:∃a,a=s[i]:=⟨_,rfl⟩;obtain⟨b,hb⟩:∃b,b=t[i]:=⟨_,rfl⟩;have haI:(s[i].toNat:Int)=(a.toNat:Int):=by rw[ha]
    have hbI:(t[i].toNat:Int)=(b.toNat:Int):=by rw[hb]
    have hstep:(Lz.low s.data.toList).take (i+1)=(Lz.low s.data.toList).take i++[Lz.low1 a]/\(Lz.low t.data.toList).take (i+1)=(Lz.low t.data.toList).take i++[Lz.low1 b]:=by
     constructor
     ·rw[List.take_add_one,show(Lz.low s.data.toList)[i]? =some (Lz.low1 a) by unfold Lz.low;rw[List.getElem?_map,get_of_lt hlt,ha];rfl];rfl
     ·rw[List.take_add_one,show(Lz.low t.data.toList)[i]? =some (Lz.low1 b) by unfold Lz.low;rw[List.getElem?_map,get_of_lt hlt2,hb];rfl];rfl
    have c1:=fun W=>lower_any a W;have c2:=fun W=>lower_any b W;have C1:Hid (∀W,Calls Tryz.prog 77 #[.int .u8 a.toNat] W fun e w'=>e=.returned (.int .u8 (Lz.low1 a).toNat)/\w'=W):=Ih (fun W=>(c1 W).mono fun _ _ ⟨h1,h2⟩=>⟨h1,h2.symm⟩);have C2:Hid (∀W,Calls Tryz.prog 77 #[.int .u8 b.toNat] W fun e w'=>e=.returned (.int .u8 (Lz.low1 b).toNat)/\w'=W):=Ih (fun W=>(c2 W).mono fun _ _ ⟨h1,h2⟩=>⟨h1,h2.symm⟩);have hbe:(((Lz.low1 a).toNat:Int) != ((Lz.low1 b).toNat:Int))= !(Lz.low1 a==Lz.low1 b):=by rw[bne,beqU]
    clear ha hb c1 c2;by_cases he:Lz.low1 a=Lz.low1 b
    ·rw[beq_iff_eq.2 he]at hbe;have hbe2:(((Lz.low1 a).toNat:Int) != ((Lz.low1 b).toNat:Int))=false:=hbe;have hT2:Hid ((Lz.low s.data.toList).take (i+1)=(Lz.low t.data.toList).take (i+1)):=by show _=_;rw[hstep.1,hstep.2,hT.out,he]
     clear he hstep hT hbe
     go_wp2_with fail
     go_quiet (first |(go_at_call_of 77 (Value.int .u8 (a.toNat:Int));exact Calls.quiet_of_same (C1.out _))|(go_at_call_of 77 (Value.int .u8 (b.toNat:Int));exact Calls.quiet_of_same (C2.out _)))
     have hbq:Below w.heap.size w (wr.drewN nq):=below_drewN hbw nq;generalize wr.drewN nq=wq at hbq⊢
     go_wp2_with fail
     go_roundw
     case rel=>exact⟨i+1,by go_num,by omega,hT2,hbq⟩
     case measure=>simp[intOf];omega
    ·rw[beq_eq_false_iff_ne.2 he]at hbe;have hbe2:(((Lz.low1 a).toNat:Int) != ((Lz.low1 b).toNat:Int))=true:=hbe
     have HQ:Hid (q=false):=by
      show _=_;rw[Hq.out];refine decide_eq_false fun e=>he ?_;have h1:=congrArg (List.take (i+1)) e;rw[hstep.1,hstep.2,hT.out]at h1;simpa using List.append_cancel_left h1
     clear he hstep hT hbe
     go_wp2_with fail
     go_quiet (first |(go_at_call_of 77 (Value.int .u8 (a.toNat:Int));exact Calls.quiet_of_same (C1.out _))|(go_at_call_of 77 (Value.int .u8 (b.toNat:Int));exact Calls.quiet_of_same (C2.out _)))
     have hbq:Below w.heap.size w (wr.drewN nq):=below_drewN hbw nq;generalize wr.drewN nq=wq at hbq⊢
     go_wp2_with fail
     go_ret;exact⟨by rw[HQ.out];rfl,hbq⟩
   ·have hltI:¬(i:Int)<(s.size:Int):=by omega
    have HQ:Hid (q=true):=by
     show _=_;rw[Hq.out];refine decide_eq_true ?_;have h1:=hT.out;rw[List.take_of_length_le (by rw[low_length,len_of_size];omega),List.take_of_length_le (by rw[low_length,len_of_size];have:=Hl.out;omega)]at h1;exact h1
    clear hT
    go_wp2_with fail
    go_ret;exact⟨by rw[HQ.out];rfl,hbw⟩
 ·have hlI:((s.size:Int) != (t.size:Int))=true:=by simp;omega
  have HQ:Hid (q=false):=by
   show _=_;rw[Hq.out];refine decide_eq_false fun e=>hl ?_;have:=congrArg List.length e;rw[low_length,low_length,len_of_size,len_of_size]at this;exact this
  clear hl;go_enter Tryz.func48,Tryz.ntmps48
  go_wp2_with fail
  go_ret;exact⟨by rw[HQ.out];rfl,Below.refl _ _⟩
theorem NoneM_any (v:Value) (l:List (List UInt8)) (w:World) (h:PathAt w v l) (hL:l.length<=1000000) (hZ:∀x,x∈l->x.length<=140737488355328):Calls Tryz.prog 22 #[v] w (RBool (Lz.noneM l) w):=by
 obtain⟨a,c,xs,rfl,rfl,hx⟩:=h
 match xs,hx,hZ,hL with
 | [],_,_,_=>
   have HV:Hid (Lz.noneM (([]:List ByteArray).map fun x:ByteArray=>x.data.toList)=true):=rfl;go_enter Tryz.func22,Tryz.ntmps22
   go_wp2_with fail
   go_ret;exact⟨by rw[HV.out];rfl,Below.refl _ _⟩
 | [x],hx,hZ,_=>
   obtain⟨B,off,rfl,hB,hc⟩:=hx 0 x rfl;rw[Nat.add_zero]at hc;have hxz:x.size<=140737488355328:=by rw[<-len_of_size];exact hZ _ (by simp)
   obtain⟨q,hq⟩:∃q,q=decide (Lz.low x.data.toList=Lz.noneS):=⟨_,rfl⟩
   have HV:Hid (Lz.noneM ([x].map fun x:ByteArray=>x.data.toList)=q):=by
    show _=_;rw[hq];show(false||(true&&(Lz.low x.data.toList==Lz.noneS)))=_;rw[Bool.false_or,Bool.true_and,Bool.eq_iff_iff];simp
   have cS:Hid (Calls Tryz.prog 48 #[.string x,.string ⟨#[39,110,111,110,101,39]⟩] w (RBool q w)):=Ih (by
    have:=SameA_any x ⟨#[39,110,111,110,101,39]⟩ hxz w;rw[show Lz.low (⟨#[39,110,111,110,101,39]⟩:ByteArray).data.toList=Lz.noneS by decide,<-hq]at this;exact this)
   clear hx hq hZ;go_enter Tryz.func22,Tryz.ntmps22
   go_wp2_with fail
   refine cS.out.mono ?_;rintro e w5 ⟨rfl,hb5⟩
   go_wp2_with fail
   go_ret;exact⟨by rw[HV.out];rfl,hb5⟩
 | x::y::r,hx,_,hL=>
   have HV:Hid (Lz.noneM ((x::y::r).map fun x:ByteArray=>x.data.toList)=false):=rfl;obtain⟨n,hn⟩:∃n,n=(x::y::r).length:=⟨_,rfl⟩;have hn2:2<=n:=by rw[hn,List.length_cons,List.length_cons];omega
   have e0:((n:Int)==0)=false:=beq_eq_false_iff_ne.2 (by omega);have e1:((n:Int)==1)=false:=beq_eq_false_iff_ne.2 (by omega);rw[<-hn];clear hx hn hL;go_enter Tryz.func22,Tryz.ntmps22
   go_wp2_with fail
   go_ret;exact⟨by rw[HV.out];rfl,Below.refl _ _⟩
end Go.Proofs.YtjhccadmmnjpeaaGreatDoor
namespace Lz
open Go
def segP:Bs->List Bs
 | []=>[[]]
 | c::r=>if isSp c then[]::segP r else match segP r with
   | []=>[[c]]
   | h::t=>(c::h)::t
theorem segP_ne:∀l:Bs,segP l≠[]
 | []=>by simp[segP]
 | c::r=>by
   rw[segP];split
   ·simp
   ·split<;>simp
theorem segP_snoc (c:UInt8):∀l:Bs,segP (l++[c])=if isSp c then segP l++[[]]else(segP l).dropLast++[(segP l).getLastD []++[c]]
 | []=>by
   by_cases h:isSp c=true
   ·rw[if_pos h];simp[segP,h]
   ·rw[if_neg h];simp[segP,h]
 | b::r=>by
   have ih:=segP_snoc c r
   obtain⟨h,t,hr⟩:∃h t,segP r=h::t:=by
    cases e:segP r with
    | nil=>exact absurd e (segP_ne r)
    | cons h t=>exact⟨h,t,rfl⟩
   rw[List.cons_append,segP,ih,hr];rw[show segP (b::r)=if isSp b then[]::segP r else match segP r with|[]=>[[b]]|h::t=>(b::h)::t from segP.eq_2 b r,hr];by_cases hb:isSp b=true
   ·rw[if_pos hb,if_pos hb];by_cases hc:isSp c=true
    ·rw[if_pos hc,if_pos hc];rfl
    ·rw[if_neg hc,if_neg hc]
     simp[List.dropLast,List.getLastD]
   ·rw[if_neg hb,if_neg hb];by_cases hc:isSp c=true
    ·rw[if_pos hc,if_pos hc];rfl
    ·rw[if_neg hc,if_neg hc];cases t with
     | nil=>simp
     | cons x y=>simp[List.dropLast,List.getLastD]
def fieldsP (s:Bs):List Bs:=(segP s).filter fun w=> !w.isEmpty
theorem fields_nil:fieldsP []=[]:=rfl
structure SegAt (l:Bs) (D:List Bs) (cur:Bs):Prop where
 seg:segP l=D++[cur]
 tail:∃pre,l=pre++cur
theorem seg_start:SegAt [] [] []:=⟨rfl,[],rfl⟩
theorem seg_space {l:Bs} {D:List Bs} {cur:Bs} {c:UInt8} (h:SegAt l D cur) (hc:isSp c=true):SegAt (l++[c]) (D++[cur]) []:=
 ⟨by rw[segP_snoc,if_pos hc,h.seg],l++[c],by simp⟩
theorem seg_more {l:Bs} {D:List Bs} {cur:Bs} {c:UInt8} (h:SegAt l D cur) (hc:isSp c=false):SegAt (l++[c]) D (cur++[c]):=
 ⟨by rw[segP_snoc,if_neg (by rw[hc];simp),h.seg];simp,by obtain⟨pre,e⟩:=h.tail;exact⟨pre,by rw[e,List.append_assoc]⟩⟩
theorem seg_end {l:Bs} {D:List Bs} {cur:Bs} (h:SegAt l D cur):fieldsP l=(D.filter fun w=> !w.isEmpty)++(if cur.isEmpty then[]else[cur]):=by
 unfold fieldsP;rw[h.seg,List.filter_append];cases cur<;>rfl
end Lz
namespace Go.Proofs.YtjhccadmmnjpeaaGreatDoor
open Go.RowKit
attribute [local go_sem ↓] Go.wp_at_zero Go.wp_at_succ
structure CutNe (H0 H1 H2 B:Nat):Prop where
 h01:H0≠H1
 h02:H0≠H2
 h12:H1≠H2
 l0:H0<B
 l1:H1<B
 l2:H2<B
structure CutAt (H0 H1 H2 B:Nat) (s:ByteArray) (f:Nat) (D:List ByteArray) (v u:Value) (W:World):Prop where
 s:W.heap[H0]? =some (.cells #[.string s] 9 (0,0))
 o:W.heap[H1]? =some (.cells #[v] 22 (0,0))
 f:W.heap[H2]? =some (.cells #[.int .i64 (f:Int)] 3 (0,0))
 own:W.ownsRow B 9 1 u D.length (D.map Value.string)
section
variable {H0 H1 H2 B f:Nat} {s:ByteArray} {D:List ByteArray} {v u:Value} {W:World}
theorem CutAt.below (h:CutAt H0 H1 H2 B s f D v u W) {W':World} (hb:Below W.heap.size W W'):CutAt H0 H1 H2 B s f D v u W':=
 ⟨(hb.block _ (row_lt h.s)).trans h.s,(hb.block _ (row_lt h.o)).trans h.o,(hb.block _ (row_lt h.f)).trans h.f,own_below h.own hb⟩
theorem CutAt.alloc (h:CutAt H0 H1 H2 B s f D v u W) (o:Obj):CutAt H0 H1 H2 B s f D v u (W.alloc o):=h.below ((Below.refl _ W).alloc (Nat.le_refl _) _)
theorem CutAt.grown (h:CutAt H0 H1 H2 B s f D v u W) {W':World} {p:ByteArray} {u2:Value} (hg:W.grownBy W' u.ownBlock) (hn:CutNe H0 H1 H2 B) (ho:W'.ownsRow B 9 1 u2 (D.length+1) (D.map Value.string++[.string p])):CutAt H0 H1 H2 B s f (D++[p]) v u2 W':=by
 have hk:∀k,k<B->k<W.heap.size->W'.heap[k]? =W.heap[k]? :=fun k hk hl=>hg.block k hl (fun e=>by have:=(h.own.lt k e.symm).1;omega);exact⟨(hk _ hn.l0 (row_lt h.s)).trans h.s,(hk _ hn.l1 (row_lt h.o)).trans h.o,(hk _ hn.l2 (row_lt h.f)).trans h.f,by rw[List.length_append,List.map_append];exact ho⟩
theorem own_setCell {B k j n:Nat} {u x:Value} {xs:List Value} {e:TypeId} {W:World} (h:W.ownsRow B e 1 u n xs) (hk:k<B):(W.setCell ⟨k,j,none⟩ x).ownsRow B e 1 u n xs:=
 h.kept (grown_setCell W ⟨k,j,none⟩ x) (.inr (fun e=>by have:=(h.lt k e).1;omega))
theorem CutAt.put (h:CutAt H0 H1 H2 B s f D v u W) (x:Value) (hn:CutNe H0 H1 H2 B):CutAt H0 H1 H2 B s f D x u (W.setCell ⟨H1,0,none⟩ x):=
 ⟨(heap_setCell_other _ _ _ _ _ hn.h01).trans h.s,row_set h.o 0 x,(heap_setCell_other _ _ _ _ _ hn.h12.symm).trans h.f,own_setCell h.own hn.l1⟩
theorem CutAt.move (h:CutAt H0 H1 H2 B s f D v u W) (k:Nat) (hn:CutNe H0 H1 H2 B):CutAt H0 H1 H2 B s k D v u (W.setCell ⟨H2,0,none⟩ (.int .i64 (k:Int))):=
 ⟨(heap_setCell_other _ _ _ _ _ hn.h02).trans h.s,(heap_setCell_other _ _ _ _ _ hn.h12).trans h.o,row_set h.f 0 _,own_setCell h.own hn.l2⟩
end
theorem cut_any (H H0 H1 H2 B:Nat) (s:ByteArray) (f:Nat) (D:List ByteArray) (v:Value) (toN:Nat) (hne:CutNe H0 H1 H2 B) (hH1:H<=H1) (hH2:H<=H2) (hHB:H<=B) (hto:toN<=s.size) (hs:s.size<=1000000000) (hD:D.length<=1000000000) (W:World) (hCut:CutAt H0 H1 H2 B s f D v v W) (hBU:B<=W.heap.size):
  Calls Tryz.prog 96 #[.int .i64 (toN:Int),.pointer (some ⟨H2,0,none⟩),.pointer (some ⟨H1,0,none⟩),.pointer (some ⟨H0,0,none⟩)] W fun e w'=>e=.returned (.tuple #[])/\Below H W w'/\∃v',CutAt H0 H1 H2 B s (toN+1) (if f<toN then D++[s.extract f toN]else D) v' v' w':=by
 obtain⟨i0,hi,hz0,hz1,hz2⟩:=info_parts infoTxt;have hHs:H<=W.heap.size:=Nat.le_trans hHB hBU;have hf0:=rowAt hCut.f 0 (.int .i64 (f:Int)) rfl;obtain⟨D2,hD2⟩:∃D2,D2=if f<toN then D++[s.extract f toN]else D:=⟨_,rfl⟩;rw[<-hD2];have HD2:=Ih hD2;clear hD2;obtain⟨U0,hU0⟩:∃U,U=W:=⟨_,rfl⟩;have hS:Hid (∀{D':List ByteArray} {v' u':Value} (U:World),CutAt H0 H1 H2 B s f D' v' u' U->Below H U0 U->(U.cell? ⟨H0,0,none⟩=some (.string s)/\U.cell? ⟨H2,0,none⟩=some (.int .i64 (f:Int)))/\Below H U0 U):=Ih (fun U h hb=>⟨⟨rowAt h.s 0 _ rfl,rowAt h.f 0 _ rfl⟩,hb⟩);have hS2:Hid (∀{D':List ByteArray} {v' u':Value} (U:World),CutAt H0 H1 H2 B s f D' v' u' U->(U.cell? ⟨H0,0,none⟩=some (.string s)/\U.cell? ⟨H2,0,none⟩=some (.int .i64 (f:Int)))):=Ih (fun U h=>⟨rowAt h.s 0 _ rfl,rowAt h.f 0 _ rfl⟩);by_cases hlt:f<toN
 ·have hltI:(f:Int)<(toN:Int):=by omega
  have b1:(0:Int)<=(f:Int):=by omega
  have b2:(toN:Int)<=(s.size:Int):=by omega
  have b3:(f:Int)<=(toN:Int):=by omega
  obtain⟨p,hp⟩:∃p,s.extract f toN=p:=⟨_,rfl⟩;have HD:Hid (D2=D++[p]):=by show _=_;rw[HD2.out,if_pos hlt,hp]
  have hb0:Below H U0 W.drew:=by rw[hU0];exact(Below.refl _ _).drew
  have hHs:H<=U0.heap.size:=by rw[hU0];exact hHs
  have hBU:B<=U0.heap.size:=by rw[hU0];exact hBU
  have HU0:=Ih hU0;clear hU0;have hCutD:CutAt H0 H1 H2 B s f D v v W.drew:=hCut.below (Below.refl _ _).drew;go_enter Tryz.func96,Tryz.ntmps96
  go_upto_region 1 with fail
  replace hCut:=hCutD;refine wp_region_held_drew (S:=fun U=>(U.cell? ⟨H0,0,none⟩=some (.string s)/\U.cell? ⟨H2,0,none⟩=some (.int .i64 (f:Int)))/\Below H U0 U) (by kernel_rfl) (hS.out _ hCut hb0) (fun hHeld=>?_);generalize W.drew=W7 at hHeld hCut⊢;refine TkD 1 (some 9) (v:=?_) rfl rfl ?_ ?_;rotate_left 2;refine TkD 2 (some 10) (v:=?_) rfl rfl ?_ ?_;rotate_left 2;refine TkD 3 (some 11) (v:=?_) rfl rfl ?_ ?_;rotate_left 2;refine TkD 4 (some 12) (v:=?_) rfl rfl ?_ ?_;rotate_left 2;rotate_left
  iterate 4 (rotate_left;(·(intro W hSw;(try dsimp only at hSw);(try simp only[Act.put]);(try simp only[List.setIfInBounds_toArray]);(try simp only[List.set_cons_zero,List.set_cons_succ]);go_simp;try with_reducible rfl)))
  (try simp only[Act.put]);(try simp only[List.setIfInBounds_toArray]);(try simp only[List.set_cons_zero,List.set_cons_succ])
  have hHeld0:=hHeld;refine wpAnyH_ready (rs:=[0,5]) (by kernel_rfl) (by simp) ?_;refine AllReadyH.cons rfl (fun K hK=>?_) (AllReadyH.cons rfl (fun K hK=>?_) AllReadyH.nil)
  ·have hcv:=rowAt hCut.o 0 v rfl;go_simp;refine hK.out _ _ hHeld (fun hHeld=>?_);clear hK K hcv
   (try simp only[Act.put]);(try simp only[List.setIfInBounds_toArray]);(try simp only[List.set_cons_zero,List.set_cons_succ])
   have hHeld0:=hHeld;refine wpAnyH_ready (rs:=[5]) (by kernel_rfl) (by simp) ?_;refine AllReadyH.cons rfl (fun K hK=>?_) AllReadyH.nil;go_simp;refine hK.out _ _ (hS.out _ (hCut.alloc (.cells #[.string p] 9)) (hHeld.2.alloc (Nat.le_trans hHs hHeld.2.size) _)) (fun hHeld=>?_);clear hK K;have hsrc:=cell_one W7 (.string p) 9;replace hCut:=hCut.alloc (.cells #[.string p] 9);have hBW:B<=(W7.alloc (.cells #[.string p] 9)).heap.size:=Nat.le_trans (Nat.le_trans hBU hHeld0.2.size) (by simp);generalize W7.heap.size=G0 at hsrc⊢;generalize W7.alloc (.cells #[.string p] 9)=W8 at hHeld hCut hsrc hBW⊢
   (try simp only[Act.put]);(try simp only[List.setIfInBounds_toArray]);(try simp only[List.set_cons_zero,List.set_cons_succ])
   have hHeld0:=hHeld;refine wpAnyH_ready (rs:=[6]) (by kernel_rfl) (by simp) ?_;refine AllReadyH.cons rfl (fun K hK=>?_) AllReadyH.nil;rw[if_pos (by rfl)];refine wp_append_own W8 (.tmp 8) (.tmp 13) 22 rfl B 9 i0 (.string ⟨#[]⟩) 1 16 Tryz.underlying22 hi hz0 hz1 hz2 rfl (by decide) v D.length (D.map Value.string) rfl hCut.own ⟨G0,0,none⟩ 1 1 [.string p] rfl rfl (fun j u hu=>hsrc j u hu) (by simp[Value.oneCell']) (by unfold maxLen;omega) (by omega) hBW ?_;intro v2 W9 hown2 hgr _
   obtain⟨g2,c2,rfl⟩:∃g2 c2,v2=.slice (some ⟨g2,0,none⟩) (D.length+1) c2:=by
    rcases hown2.2 with⟨_,h⟩|⟨g2,c2,_,h,_⟩
    ·omega
    ·exact⟨g2,c2,h⟩
   have hCut2:=hCut.grown hgr hne hown2;have hB9:Below H U0 W9:=hHeld.2.grown hgr (Nat.le_trans hHs hHeld.2.size) (fun k hk=>Nat.le_trans hHB (hCut.own.lt k hk).1);refine hK.out _ _ ⟨hS2.out _ hCut2,hB9⟩ (fun hHeld=>?_);clear hK K hsrc hown2 hgr hCut
   (try simp only[Act.put]);(try simp only[List.setIfInBounds_toArray]);(try simp only[List.set_cons_zero,List.set_cons_succ])
   have hHeld0:=hHeld;refine wpAnyH_ready (rs:=[7]) (by kernel_rfl) (by simp) ?_;refine AllReadyH.cons rfl (fun K hK=>?_) AllReadyH.nil;have hc1:=rowAt hCut2.o 0 v rfl;have hf1:=frozen_of_row _ _ 0 _ _ hCut2.o;go_simp;refine hK.out _ _ ⟨hS2.out _ (hCut2.put _ hne),hHeld.2.setCell hH1 _⟩ (fun hHeld=>?_);clear hK K hc1 hf1;replace hCut2:=hCut2.put (.slice (some ⟨g2,0,none⟩) (D.length+1) c2) hne;generalize W9.setCell ⟨H1,0,none⟩ (.slice (some ⟨g2,0,none⟩) (D.length+1) c2)=W10 at hHeld hCut2⊢
   (try simp only[Act.put]);(try simp only[List.setIfInBounds_toArray]);(try simp only[List.set_cons_zero,List.set_cons_succ])
   refine wpAnyH_done (by kernel_rfl) ?_ _;have hc2:=rowAt hCut2.f 0 (.int .i64 (f:Int)) rfl;have hf2:=frozen_of_row _ _ 0 _ _ hCut2.f;have hCut3:=hCut2.move (toN+1) hne;have hB3:=hHeld.2.setCell (p:=⟨H2,0,none⟩) hH2 (.int .i64 ((toN+1:Nat):Int))
   go_wp2_with fail
   go_end0
   exact⟨rfl,HU0.out▸hB3,_,by rw[HD.out];exact hCut3⟩
  ·go_simp;refine hK.out _ _ (hS.out _ (hCut.alloc (.cells #[.string p] 9)) (hHeld.2.alloc (Nat.le_trans hHs hHeld.2.size) _)) (fun hHeld=>?_);clear hK K;have hsrc:=cell_one W7 (.string p) 9;replace hCut:=hCut.alloc (.cells #[.string p] 9);have hBW:B<=(W7.alloc (.cells #[.string p] 9)).heap.size:=Nat.le_trans (Nat.le_trans hBU hHeld0.2.size) (by simp);generalize W7.heap.size=G0 at hsrc⊢;generalize W7.alloc (.cells #[.string p] 9)=W8 at hHeld hCut hsrc hBW⊢
   (try simp only[Act.put]);(try simp only[List.setIfInBounds_toArray]);(try simp only[List.set_cons_zero,List.set_cons_succ])
   have hHeld0:=hHeld;refine wpAnyH_ready (rs:=[0]) (by kernel_rfl) (by simp) ?_;refine AllReadyH.cons rfl (fun K hK=>?_) AllReadyH.nil;have hcv:=rowAt hCut.o 0 v rfl;go_simp;refine hK.out _ _ hHeld (fun hHeld=>?_);clear hK K hcv
   (try simp only[Act.put]);(try simp only[List.setIfInBounds_toArray]);(try simp only[List.set_cons_zero,List.set_cons_succ])
   have hHeld0:=hHeld;refine wpAnyH_ready (rs:=[6]) (by kernel_rfl) (by simp) ?_;refine AllReadyH.cons rfl (fun K hK=>?_) AllReadyH.nil;rw[if_pos (by rfl)];refine wp_append_own W8 (.tmp 8) (.tmp 13) 22 rfl B 9 i0 (.string ⟨#[]⟩) 1 16 Tryz.underlying22 hi hz0 hz1 hz2 rfl (by decide) v D.length (D.map Value.string) rfl hCut.own ⟨G0,0,none⟩ 1 1 [.string p] rfl rfl (fun j u hu=>hsrc j u hu) (by simp[Value.oneCell']) (by unfold maxLen;omega) (by omega) hBW ?_;intro v2 W9 hown2 hgr _
   obtain⟨g2,c2,rfl⟩:∃g2 c2,v2=.slice (some ⟨g2,0,none⟩) (D.length+1) c2:=by
    rcases hown2.2 with⟨_,h⟩|⟨g2,c2,_,h,_⟩
    ·omega
    ·exact⟨g2,c2,h⟩
   have hCut2:=hCut.grown hgr hne hown2;have hB9:Below H U0 W9:=hHeld.2.grown hgr (Nat.le_trans hHs hHeld.2.size) (fun k hk=>Nat.le_trans hHB (hCut.own.lt k hk).1);refine hK.out _ _ ⟨hS2.out _ hCut2,hB9⟩ (fun hHeld=>?_);clear hK K hsrc hown2 hgr hCut
   (try simp only[Act.put]);(try simp only[List.setIfInBounds_toArray]);(try simp only[List.set_cons_zero,List.set_cons_succ])
   have hHeld0:=hHeld;refine wpAnyH_ready (rs:=[7]) (by kernel_rfl) (by simp) ?_;refine AllReadyH.cons rfl (fun K hK=>?_) AllReadyH.nil;have hc1:=rowAt hCut2.o 0 v rfl;have hf1:=frozen_of_row _ _ 0 _ _ hCut2.o;go_simp;refine hK.out _ _ ⟨hS2.out _ (hCut2.put _ hne),hHeld.2.setCell hH1 _⟩ (fun hHeld=>?_);clear hK K hc1 hf1;replace hCut2:=hCut2.put (.slice (some ⟨g2,0,none⟩) (D.length+1) c2) hne;generalize W9.setCell ⟨H1,0,none⟩ (.slice (some ⟨g2,0,none⟩) (D.length+1) c2)=W10 at hHeld hCut2⊢
   (try simp only[Act.put]);(try simp only[List.setIfInBounds_toArray]);(try simp only[List.set_cons_zero,List.set_cons_succ])
   refine wpAnyH_done (by kernel_rfl) ?_ _;have hc2:=rowAt hCut2.f 0 (.int .i64 (f:Int)) rfl;have hf2:=frozen_of_row _ _ 0 _ _ hCut2.f;have hCut3:=hCut2.move (toN+1) hne;have hB3:=hHeld.2.setCell (p:=⟨H2,0,none⟩) hH2 (.int .i64 ((toN+1:Nat):Int))
   go_wp2_with fail
   go_end0
   exact⟨rfl,HU0.out▸hB3,_,by rw[HD.out];exact hCut3⟩
 ·have hltI:¬(f:Int)<(toN:Int):=by omega
  have HD:Hid (D2=D):=by show _=_;rw[HD2.out,if_neg hlt]
  have hf2:=frozen_of_row _ _ 0 _ _ hCut.f;have hCut3:=hCut.move (toN+1) hne;have hB3:=(Below.refl H W).setCell (p:=⟨H2,0,none⟩) hH2 (.int .i64 ((toN+1:Nat):Int));go_enter Tryz.func96,Tryz.ntmps96
  go_wp2_with fail
  go_end0
  exact⟨rfl,hB3,v,by rw[HD.out];exact hCut3⟩
theorem sp_at:∀c:UInt8,decide (0<=Lib.indexByte [9,10,12,13,32] c)=Lz.isSp c:=Lz.byte_all (by decide +kernel)
theorem Space_any (c:UInt8) (w:World):Calls Tryz.prog 97 #[.int .u8 (c.toNat:Int)] w fun e w'=>e=.returned (.bool (Lz.isSp c))/\w=w':=by
 have cI:=Ih (IndexByte_c ⟨#[9,10,12,13,32]⟩ c w);have HS:=Ih (sp_at c);go_enter Tryz.func97,Tryz.ntmps97
 go_wp2_with fail
 refine cI.out.mono ?_;rintro e w1 ⟨rfl,rfl⟩
 go_wp2_with fail
 go_ret;exact⟨by rw[<-HS.out];rfl,rfl⟩
def FldAt (l:List UInt8) (i f:Nat) (D:List ByteArray):Prop:=f<=i/\D.length<=i/\∃Ds,Lz.SegAt (l.take i) Ds ((l.take i).drop f)/\D.map (fun x:ByteArray=>x.data.toList)=Ds.filter fun w=> !w.isEmpty
theorem ext_list {s:ByteArray} {l:List UInt8} (hl:l=s.data.toList) (f i:Nat):(s.extract f i).data.toList=(l.take i).drop f:=by
 rw[hl]
 simp[ByteArray.data_extract,List.drop_take]
theorem cur_len {l:List UInt8} {i f:Nat} (hi:i<=l.length):((l.take i).drop f).length=i-f:=by rw[List.length_drop,List.length_take];omega
theorem cur_empty {l:List UInt8} {i f:Nat} (hi:i<=l.length):((l.take i).drop f).isEmpty= !decide (f<i):=by
 have:=cur_len (f:=f) hi;by_cases h:f<i
 ·rw[decide_eq_true h];cases hc:(l.take i).drop f with
  | nil=>rw[hc]at this;simp at this;omega
  | cons _ _=>rfl
 ·rw[decide_eq_false h,List.length_eq_zero_iff.1 (show((l.take i).drop f).length=0 by omega)];rfl
theorem words_map {s:ByteArray} {l:List UInt8} (hl:l=s.data.toList) {i f:Nat} (hi:i<=l.length) {D:List ByteArray} {Ds:List (List UInt8)} (h:D.map (fun x:ByteArray=>x.data.toList)=Ds.filter fun w=> !w.isEmpty):(if f<i then D++[s.extract f i]else D).map (fun x:ByteArray=>x.data.toList)=(Ds++[(l.take i).drop f]).filter fun w=> !w.isEmpty:=by
 rw[List.filter_append,List.filter_cons,cur_empty hi,List.filter_nil,<-h];by_cases hf:f<i
 ·rw[if_pos hf,decide_eq_true hf,List.map_append,List.map_cons,List.map_nil,ext_list hl];rfl
 ·rw[if_neg hf,decide_eq_false hf];simp
theorem take_snoc {l:List UInt8} {i:Nat} {c:UInt8} (hc:l[i]? =some c):l.take (i+1)=l.take i++[c]:=by rw[List.take_add_one,hc];rfl
theorem fld_space {s:ByteArray} {l:List UInt8} (hl:l=s.data.toList) {i f:Nat} {D:List ByteArray} {c:UInt8} (h:FldAt l i f D) (hc:l[i]? =some c) (hsp:Lz.isSp c=true):FldAt l (i+1) (i+1) (if f<i then D++[s.extract f i]else D):=by
 obtain⟨h1,h2,Ds,hseg,hmap⟩:=h;have hi:i<l.length:=(List.getElem?_eq_some_iff.1 hc).1;refine⟨Nat.le_refl _,?_,Ds++[(l.take i).drop f],?_,words_map hl (by omega) hmap⟩
 ·split
  ·simp;omega
  ·omega
 ·have e:(l.take (i+1)).drop (i+1)=[]:=List.drop_eq_nil_iff.2 (by rw[List.length_take];omega);rw[e,take_snoc hc];exact Lz.seg_space hseg hsp
theorem fld_more {l:List UInt8} {i f:Nat} {D:List ByteArray} {c:UInt8} (h:FldAt l i f D) (hc:l[i]? =some c) (hsp:Lz.isSp c=false):FldAt l (i+1) f D:=by
 obtain⟨h1,h2,Ds,hseg,hmap⟩:=h;have hi:i<l.length:=(List.getElem?_eq_some_iff.1 hc).1;refine⟨by omega,by omega,Ds,?_,hmap⟩;rw[take_snoc hc,List.drop_append_of_le_length (by rw[List.length_take];omega)];exact Lz.seg_more hseg hsp
theorem fld_end {s:ByteArray} {l:List UInt8} (hl:l=s.data.toList) {f:Nat} {D:List ByteArray} (h:FldAt l s.size f D):(if f<s.size then D++[s.extract f s.size]else D).map (fun x:ByteArray=>x.data.toList)=Lz.fieldsP l:=by
 obtain⟨h1,h2,Ds,hseg,hmap⟩:=h;have hll:l.length=s.size:=by rw[hl];exact len_of_size s
 rw[words_map hl (by omega) hmap];rw[List.take_of_length_le (by omega)]at hseg⊢;rw[Lz.seg_end hseg,List.filter_append];cases (l.drop f)<;>rfl
def RWords (l:List (List UInt8)) (w:World) (e:Ending) (w':World):Prop:=∃v,e=.returned v/\PathAt w' v l/\Below w.heap.size w w'
theorem Fields_any (s:ByteArray) (hs:s.size<=1000000) (w:World):Calls Tryz.prog 66 #[.string s] w (RWords (Lz.fieldsP s.data.toList) w):=by
 obtain⟨l,hl⟩:∃l,l=s.data.toList:=⟨_,rfl⟩;have hll:l.length=s.size:=by rw[hl];exact len_of_size s
 rw[<-hl];have HL:=Ih hl;have Hll:=Ih hll;clear hl hll;obtain⟨W,hW⟩:∃W,W=((w.alloc (.cells #[.string s] 9)).alloc (.cells #[.slice none 0 0] 22)).alloc (.cells #[.int .i64 0] 3):=⟨_,rfl⟩;have hbW:Below w.heap.size w W:=by rw[hW];exact(((Below.refl _ w).alloc (Nat.le_refl _) _).alloc (by simp) _).alloc (by simp;omega) _
 have hr0:W.heap[w.heap.size]? =some (.cells #[.string s] 9 (0,0)):=by
  rw[hW,Below.heap_alloc _ _ _ (by simp;omega),Below.heap_alloc _ _ _ (by simp)];exact heap_new _ _
 have hr1:W.heap[w.heap.size+1]? =some (.cells #[.slice none 0 0] 22 (0,0)):=by
  rw[hW,Below.heap_alloc _ _ _ (by simp)];exact heap_new2 _ _ _
 have hr2:W.heap[w.heap.size+1+1]? =some (.cells #[.int .i64 0] 3 (0,0)):=by
  rw[hW];have:=heap_new ((w.alloc (.cells #[.string s] 9)).alloc (.cells #[.slice none 0 0] 22)) (.cells #[.int .i64 0] 3);simpa using this
 have hBW:w.heap.size+1+1+1<=W.heap.size:=row_lt hr2;have HW:=Ih hW;clear hW;go_enter Tryz.func66,Tryz.ntmps66
 go_upto_region 4 with fail
 rw[<-HW.out];obtain⟨H0,hH0⟩:∃H,H=w.heap.size:=⟨_,rfl⟩;obtain⟨H1,hH1⟩:∃H,H=w.heap.size+1:=⟨_,rfl⟩;obtain⟨H2,hH2⟩:∃H,H=w.heap.size+1+1:=⟨_,rfl⟩;obtain⟨B,hB⟩:∃H,H=w.heap.size+1+1+1:=⟨_,rfl⟩;rw[<-hH2,<-hH1,<-hH0];rw[<-hB]at hBW;rw[<-hH2]at hr2;rw[<-hH1]at hr1;rw[<-hH0]at hr0;have hne:CutNe H0 H1 H2 B:=⟨by omega,by omega,by omega,by omega,by omega,by omega⟩;have hC0:CutAt H0 H1 H2 B s 0 [] (.slice none 0 0) (.slice none 0 0) W:=⟨hr0,hr1,hr2,World.ownsRow_nil _ _ _ _⟩;have hle:w.heap.size<=H1/\w.heap.size<=H2/\w.heap.size<=B:=by omega
 clear HW hr0 hr1 hr2 hH0 hH1 hH2 hB;have hc0:=rowAt hC0.s 0 (.string s) rfl
 go_wp2_with fail
 clear hc0
 go_loopw [6,10] (fun _ k wr=>∃(i f:Nat) (D:List ByteArray) (v:Value),k=.int .i64 i/\i<=s.size/\CutAt H0 H1 H2 B s f D v v wr/\Hid (FldAt l i f D)/\Below w.heap.size w wr/\B<=wr.heap.size) (fun _ k _=>s.size-(intOf k).toNat)
 case atStart=>exact⟨0,0,[],_,rfl,by omega,hC0,⟨Nat.le_refl _,Nat.le_refl _,[],by rw[List.take_zero];exact Lz.seg_start,rfl⟩,hbW,hBW⟩
 case round=>
  obtain⟨i,f,D,v,rfl,hi,hC,hF,hb,hBw⟩:=hrel;clear hC0 hbW hBW;have hDl:D.length<=1000000000:=by have:=hF.out.2.1;omega
  have hc0:=rowAt hC.s 0 (.string s) rfl;by_cases hlt:i<s.size
  ·have hltI:(i:Int)<(s.size:Int):=by omega
   have hi0:(0:Int)<=(i:Int):=by omega
   obtain⟨c,hc⟩:∃c,c=s[i]:=⟨_,rfl⟩;have hcI:(s[i].toNat:Int)=(c.toNat:Int):=by rw[hc]
   have hcg:l[i]? =some c:=by rw[HL.out,get_of_lt hlt,hc]
   have cS:=Ih (Space_any c wr);clear hc;cases hsp:Lz.isSp c with
   | true=>
     rw[hsp]at cS;have HN:Hid (FldAt l (i+1) (i+1) (if f<i then D++[s.extract f i]else D)):=fld_space HL.out hF.out hcg hsp;have cC:=Ih (cut_any w.heap.size H0 H1 H2 B s f D v i hne hle.1 hle.2.1 hle.2.2 hi (by omega) hDl wr hC hBw);clear hcg hsp hC hF hDl
     go_wp2_with fail
     refine cS.out.mono ?_;rintro e w1 ⟨rfl,rfl⟩
     go_wp2_with fail
     refine cC.out.mono ?_;rintro e w2 ⟨rfl,hb2,v2,hC2⟩;have hBw2:=Nat.le_trans hBw hb2.size;have hb3:=hb.trans hb2
     go_wp2_with fail
     go_roundw
     case rel=>exact⟨i+1,i+1,_,v2,by go_num,by omega,hC2,HN,hb3,hBw2⟩
     case measure=>simp[intOf];omega
   | false=>
     rw[hsp]at cS;have HN:Hid (FldAt l (i+1) f D):=fld_more hF.out hcg hsp;clear hcg hsp hF hDl
     go_wp2_with fail
     refine cS.out.mono ?_;rintro e w1 ⟨rfl,rfl⟩
     go_wp2_with fail
     go_roundw
     case rel=>exact⟨i+1,f,D,v,by go_num,by omega,hC,HN,hb,hBw⟩
     case measure=>simp[intOf];omega
  ·obtain rfl:i=s.size:=by omega
   have hltI:¬((s.size:Int)<(s.size:Int)):=by omega
   have HE:Hid ((if f<s.size then D++[s.extract f s.size]else D).map (fun x:ByteArray=>x.data.toList)=Lz.fieldsP l):=fld_end HL.out hF.out;have cC:=Ih (cut_any w.heap.size H0 H1 H2 B s f D v s.size hne hle.1 hle.2.1 hle.2.2 (Nat.le_refl _) (by omega) hDl wr hC hBw);clear hC hF hDl
   go_wp2_with fail
   refine cC.out.mono ?_;rintro e w2 ⟨rfl,hb2,v2,hC2⟩;have hcv:=rowAt hC2.o 0 v2 rfl
   go_wp2_with fail
   go_ret;obtain⟨a,c,hv,_,hcells⟩:=PathOwn.form (.inl hC2.own);exact⟨v2,rfl,⟨a,c,_,hv,HE.out,hcells⟩,hb.trans hb2⟩
end Go.Proofs.YtjhccadmmnjpeaaGreatDoor
namespace Go.Proofs.YtjhccadmmnjpeaaGreatDoor
open Go.ChangeShapes Go.WideShapes Go.ChangeAt Go.RowKit
theorem laidOut:laidOutB Tryz.prog=true:=by kernel_rfl
theorem cellsU8:Tryz.prog.cellsOf 5=1:=by kernel_rfl
theorem trodAll_below {H:Type} {enc:TypeId×Value->H} {W W':World} (hb:Below W.heap.size W W'):∀{ts:List TypeId} {vs:List Value} {ds:List (DataW H)} {ps:List MemPlace},
  (∀t∈ts,Tryz.prog.readableRec t=true/\t<Tryz.prog.types.size)->DataW.TrodAll enc Tryz.prog W 0 (fun _=>true) true ts vs ds ps->(∀x∈ps,x.block<W.heap.size)->
  DataW.TrodAll enc Tryz.prog W' 0 (fun b=>decide (b<W.heap.size)) true ts vs ds ps
 | [],[],[],_,_,h,_=>h
 | t::ts,v::vs,d::ds,ps,ht,⟨p,q,h1,h2,e⟩,hlt=>
   ⟨p,q,Below.trod laidOut (ht t (by simp)).1 (ht t (by simp)).2 h1 hb (fun x hx=>hlt x (by rw[e];exact List.mem_append_left _ hx)),
    trodAll_below hb (fun t' h'=>ht t' (by simp[h'])) h2 (fun x hx=>hlt x (by rw[e];exact List.mem_append_right _ hx)),e⟩
 | [],_::_,_,_,_,h,_=>by simp[DataW.TrodAll]at h
 | [],[],_::_,_,_,h,_=>by simp[DataW.TrodAll]at h
 | _::_,[],_,_,_,h,_=>by simp[DataW.TrodAll]at h
 | _::_,_::_,[],_,_,h,_=>by simp[DataW.TrodAll]at h
theorem byte_of_wf {n:Int} (h:(Lit.int .u8 n).wf=true):0<=n/\n<=255:=by
 simp only[Lit.wf,Bool.and_eq_true,decide_eq_true_eq]at h;have h0:IntKind.u8.min=0:=by decide
 have h1:IntKind.u8.max=255:=by decide
 rw[h0,h1]at h;exact h
theorem slB_cell {H:Type} {enc:TypeId×Value->H} {W:World} {base:Nat} {sp:Nat->Bool} {hd:Bool} {v:Value} {x:DataW H×List MemPlace} {fuel:Nat}
  (hf:DataW.trod enc Tryz.prog W base sp hd fuel 30 [v]=some x):∃l,SlB W v l:=by
 rcases open_ints Tryz.underlying30 Tryz.underlying5 cellsU8 hf with⟨hcs,hx⟩|⟨a,len',cap',zs,hcs,_,hl,hm,hz,hx,hcell,hwz⟩
 ·obtain rfl:=List.singleton_inj.1 hcs;exact⟨[],none,0,rfl,by simp,fun j b hj=>by simp at hj⟩
 ·obtain rfl:=List.singleton_inj.1 hcs;have hzl:len'<=zs.length:=by rw[hz];split<;>omega
  have hm':cap'<=9223372036854775807:=hm;have hlen:((zs.take len').map (fun z=>UInt8.ofNat z.toNat)).length=len':=by simp;omega
  refine⟨(zs.take len').map (fun z=>UInt8.ofNat z.toNat),some a,cap',by rw[hlen],by rw[hlen];omega,fun j b hj=>?_⟩
  have hjl:j<len':=by
   have:=(List.getElem?_eq_some_iff.1 hj).1;rw[hlen]at this;exact this
  obtain⟨B,off,rfl,hc⟩:=ints_at hcell (by omega);have h1:=hc j (by omega);refine⟨B,off,rfl,World.block_lt_of_cell? _ _ h1,?_⟩;rw[h1]
  have hzj:zs[j]? =some (zs.getD j 0):=by
   rw[List.getD_eq_getElem?_getD,List.getElem?_eq_getElem (by omega)];rfl
  have hb:b=UInt8.ofNat (zs.getD j 0).toNat:=by
   rw[List.getElem?_map,List.getElem?_take,if_pos hjl,hzj]at hj;exact(Option.some.inj hj).symm
  obtain⟨w0,w1⟩:=byte_of_wf (hwz _ (List.mem_of_getElem? hzj));rw[hb,UInt8.toNat_ofNat'];congr 2;omega
theorem slB_of {H:Type} {enc:TypeId×Value->H} {W:World} {base:Nat} {sp:Nat->Bool} {hd:Bool} {v:Value} {d:DataW H} {ps:List MemPlace} {r:Reach} {b0:Nat}
  (hv:Value.okWide Tryz.prog W r b0 30 v) (h:DataW.Trod enc Tryz.prog W base sp hd 30 v d ps):∃l,SlB W v l:=by
 obtain⟨a0,len,cap,rfl⟩:=okWide_slice Tryz.underlying30 hv;obtain⟨fuel,hf⟩:=h;exact slB_cell hf
end Go.Proofs.YtjhccadmmnjpeaaGreatDoor
