/-
  Plain laws: what lazaretref26 answers is what package match does. No condition.
-/
import Derived.Test.YtfepgodjaeddgaaGreatDoorR16
import Derived.Test.YtfepgodjaeddgaaGreatDoorR21
import Derived.ProofKit
import Derived.OpenShut
import Derived.Deep.DeepWitnessRowRef
set_option maxHeartbeats 4000000
set_option maxRecDepth 100000
namespace Go.Proofs.YtfepgodjaeddgaaGreatDoor
open Go.RowKit
def SrcB.cells (x:SrcB):Array Value:= #[.int .i64 x.kind,.string x.text,.int .i64 x.bits,.string x.scheme,.string x.host,.bool x.wild,.int .i64 x.port,.string x.path]
def SrcRow (w:World) (T:Nat) (x:SrcB):Prop:=w.heap[T]? =some (.cells x.cells 59 (0,0))
theorem SrcRow.cell {w:World} {T:Nat} {x:SrcB} (h:SrcRow w T x) (k:Nat):w.cell? ⟨T,k,none⟩=x.cells[k]? :=cell_of_row w T k _ _ _ h
theorem SrcRow.free {w:World} {T:Nat} {x:SrcB} (h:SrcRow w T x) (k:Nat):w.frozen? ⟨T,k,none⟩=false:=by
 unfold SrcRow at h;simp only[World.frozen?,h]
 simp
theorem SrcRow.lt {w:World} {T:Nat} {x:SrcB} (h:SrcRow w T x):T<w.heap.size:=(Array.getElem?_eq_some_iff.1 h).1
theorem SrcRow.below {w w':World} {T:Nat} {x:SrcB} (h:SrcRow w T x) (hb:Below w.heap.size w w'):SrcRow w' T x:=by
 unfold SrcRow;rw[hb.block T h.lt];exact h
theorem SrcRow.store {w:World} {T:Nat} {x y:SrcB} (h:SrcRow w T x) (k:Nat) (v:Value) (hy:x.cells.setIfInBounds k v=y.cells):SrcRow (w.setCell ⟨T,k,none⟩ v) T y:=by
 unfold SrcRow;rw[setCell_eq_setRow w T k x.cells _ _ v h,<-hy];exact setRow_heap _ _ _ _ _ _ h
def RInto (o:Option SrcB) (x:SrcB) (n T:Nat) (w:World) (e:Ending) (w':World):Prop:=
 ∃v,e=.returned v/\Hid (match o with|some y=>v=.nilIface/\SrcRow w' T y|none=>Bady w' n v/\SrcRow w' T x)/\Below T w w'
theorem eq_star {s:ByteArray} (b:Bool) (h:decide (s.data.toList=[42])=b):(s.toList==[42])=b:=by
 rw[Lib.toList_data,<-h];by_cases h2:s.data.toList=[42]<;>simp[h2]
def hostO (s:ByteArray) (x:SrcB):Option SrcB:=
 if s.data.toList=[42]then some {x with wild:=true}
 else if Lz.namedB (Lib.trimPrefix s.data.toList [42,46])then some {x with wild:=Lib.hasPrefix s.data.toList [42,46],host:=⟨(Lz.low (Lib.trimPrefix s.data.toList [42,46])).toArray⟩} else none
theorem host_any (s:ByteArray) (hs:s.size<=1048576) (T:Nat) (x:SrcB) (w:World) (hE:Env w) (hT:SrcRow w T x):
  Calls Tryz.prog 209 #[.string s,.pointer (some ⟨T,0,none⟩)] w (RInto (hostO s x) x 0 T w):=by
 have h5:=hT.cell 5;have h4:=hT.cell 4;have f5:=hT.free 5;have f4:=hT.free 4;simp only[SrcB.cells]at h4 h5
 simp at h4 h5
 go_enter Tryz.func209,Tryz.ntmps209
 go_wp2_with fail
 refine(CutPrefix_c s _ w).mono ?_;rintro e w1 ⟨v,rfl,hv,rfl⟩;by_cases hstar:s.data.toList=[42]
 ·have hst:=eq_star true (decide_eq_true hstar);have HR:Hid (hostO s x=some {x with wild:=true}):=by show hostO s x=_;unfold hostO;rw[if_pos hstar]
  clear hstar
  go_wp2
  go_ret;exact⟨_,rfl,by rw[HR.out];exact⟨rfl,hT.store 5 _ (by rfl)⟩,(Below.refl T w).setCell (p:=⟨T,5,none⟩) (Nat.le_refl _) _⟩
 ·have hst:=eq_star false (decide_eq_false hstar);have Hs:=Ih hstar;clear hstar;have hvl:v.data.toList=Lib.trimPrefix s.data.toList [42,46]:=hv.out
  have hvz:v.size<=s.size:=by
   rw[<-len_of_size v,hvl,<-len_of_size s];unfold Lib.trimPrefix;split
   ·simp
   ·exact Nat.le_refl _
  have Hvl:=Ih hvl;clear hvl hv;have cN:=Ih (named_any v (by omega) w hE);generalize hnb:Lz.namedB v.data.toList=nb at cN;have Hnb:=Ih hnb;clear hnb;cases nb
  ·have HR:Hid (hostO s x=none):=by
    show hostO s x=_;unfold hostO;rw[if_neg Hs.out,<-Hvl.out,Hnb.out];rfl
   go_wp2_with fail
   refine(cN.out).mono ?_;rintro e w2 ⟨rfl,hb2⟩
   go_wp2
   go_ret;exact⟨_,rfl,by rw[HR.out];exact⟨⟨_,rfl⟩,hT.below hb2⟩,hb2.mono (Nat.le_of_lt hT.lt)⟩
  ·go_wp2_with fail
   refine(cN.out).mono ?_;rintro e w2 ⟨rfl,hb2⟩
   go_wp2_with fail
   refine(Lower_c v (by omega) w2).mono ?_;rintro e w3 ⟨u,rfl,hu,hb3⟩;have hx3:=below_call hb2 hb3;have hT3:=hT.below hx3
   have HR:Hid (hostO s x=some {x with wild:=Lib.hasPrefix s.data.toList [42,46],host:=u}):=by
    show hostO s x=_;unfold hostO;rw[if_neg Hs.out,<-Hvl.out,Hnb.out,if_pos rfl];have hue:(⟨(Lz.low v.data.toList).toArray⟩:ByteArray)=u:=by rw[<-hu.out]
    rw[hue]
   clear h4 h5 f4 f5;have h5:=hT3.cell 5;have h4:=hT3.cell 4;have f5:=hT3.free 5;have f4:=hT3.free 4;simp only[SrcB.cells]at h4 h5
   simp at h4 h5
   go_wp2
   go_ret;have hrow:=(hT3.store (y:={x with wild:=Lib.hasPrefix s.data.toList [42,46]}) 5 (.bool (Lib.hasPrefix s.data.toList [42,46])) (by rfl)).store (y:={x with wild:=Lib.hasPrefix s.data.toList [42,46],host:=u}) 4 (.string u) (by rfl);exact⟨_,rfl,by rw[HR.out];exact⟨rfl,hrow⟩,((hx3.mono (Nat.le_of_lt hT.lt)).setCell (p:=⟨T,5,none⟩) (Nat.le_refl _) _).setCell (p:=⟨T,4,none⟩) (Nat.le_refl _) _⟩
def portO (s:ByteArray) (x:SrcB):Option SrcB:=(Lz.portP s.data.toList).map fun n=>{x with port:=n}
theorem Atoi_c (s:ByteArray) (hs:s.size<=1048576) (w:World) (hE:Env w):
  Calls Tryz.prog 241 #[.string s] w fun e w'=>∃n v,e=.returned (.tuple #[.int .i64 n,v])/\Hid ((Lib.atoiAll s.data.toList=.ok n/\v=.nilIface)\/((∀m,Lib.atoiAll s.data.toList≠.ok m)/\∃t x,v=.iface t x))/\Below w.heap.size w w':=by
 cases h:Lib.atoiAll s.data.toList with
 | ok n=>
   refine(Tryz.strconv_Atoi_ok s (by omega) n h w).mono ?_;rintro e w' ⟨he,hw⟩;refine⟨n,.nilIface,he,Or.inl ⟨rfl,rfl⟩,?_⟩;rcases hw with rfl|⟨t,rfl⟩
   ·exact Below.refl _ _
   ·exact Lib.bytesWorld_below _ _ _
 | range=>
   obtain⟨te,pe,hv⟩:=hE.rng;refine(Tryz.strconv_Atoi_range s (by omega) h _ w hv (Or.inr ⟨te,pe,rfl⟩)).mono ?_;rintro e w' ⟨N,he,_,_,hb⟩;exact⟨_,_,he,Or.inr ⟨(fun m hm=>by cases hm),_,_,rfl⟩,hb⟩
 | _=>
   obtain⟨te,pe,hv⟩:=hE.syn;refine(Tryz.strconv_Atoi_syntax s (by omega) (h.trans rfl) _ w hv (Or.inr ⟨te,pe,rfl⟩)).mono ?_;rintro e w' ⟨N,he,_,_,hb⟩;exact⟨_,_,he,Or.inr ⟨(fun m hm=>by cases hm),_,_,rfl⟩,hb⟩
theorem port_any (s:ByteArray) (hs:s.size<=1048576) (T:Nat) (x:SrcB) (w:World) (hE:Env w) (hT:SrcRow w T x):
  Calls Tryz.prog 211 #[.string s,.pointer (some ⟨T,0,none⟩)] w (RInto (portO s x) x 1 T w):=by
 by_cases hstar:s.data.toList=[42]
 ·have hst:=eq_star true (decide_eq_true hstar);have HR:Hid (portO s x=some {x with port:= -2}):=by show portO s x=_;unfold portO Lz.portP;rw[if_pos hstar];rfl
  clear hstar;have h6:=hT.cell 6;have f6:=hT.free 6;simp only[SrcB.cells]at h6
  simp at h6
  go_enter Tryz.func211,Tryz.ntmps211
  go_wp2
  go_ret;exact⟨_,rfl,by rw[HR.out];exact⟨rfl,hT.store 6 _ (by rfl)⟩,(Below.refl T w).setCell (p:=⟨T,6,none⟩) (Nat.le_refl _) _⟩
 ·have hst:=eq_star false (decide_eq_false hstar);have Hs:=Ih hstar;clear hstar;have cA:=Ih (all_any pred_Digit s (by omega));generalize hdb:Lz.allB Lz.isDigit s.data.toList=db at cA;have Hdb:=Ih hdb;clear hdb;go_enter Tryz.func211,Tryz.ntmps211
  go_wp2_with fail
  refine(Atoi_c s hs w hE).mono ?_;rintro e w1 ⟨n,v,rfl,hv,hb1⟩;have hT1:=hT.below hb1;rcases hv.out with⟨ha,rfl⟩|⟨ha,t,z,rfl⟩
  ·have Ha:=Ih ha;clear ha hv;by_cases hgood:db=true/\n<=65535
   ·obtain⟨rfl,hn⟩:=hgood
    have HR:Hid (portO s x=some {x with port:=n}):=by
     show portO s x=_;unfold portO Lz.portP;rw[if_neg Hs.out,Ha.out];simp only[Hdb.out,decide_eq_true hn,Bool.and_self,if_true];rfl
    have h6:=hT1.cell 6;have f6:=hT1.free 6;simp only[SrcB.cells]at h6
    simp at h6
    go_wp2_with (go_at_call 207;refine(cA.out _).mono ?_;rintro e w2 ⟨rfl,rfl⟩)
    go_ret;exact⟨_,rfl,by rw[HR.out];exact⟨rfl,hT1.store 6 _ (by rfl)⟩,(hb1.mono (Nat.le_of_lt hT.lt)).setCell (p:=⟨T,6,none⟩) (Nat.le_refl _) _⟩
   ·have HR:Hid (portO s x=none):=by
     show portO s x=_;unfold portO Lz.portP;rw[if_neg Hs.out,Ha.out]
     have:(db&&decide (n<=65535))=false:=by
      cases db
      ·rfl
      ·have:¬n<=65535:=fun h=>hgood ⟨rfl,h⟩
       simp[this]
     simp only[Hdb.out,this];rfl
    have hcase:(db=false)\/(db=true/\65535<n):=by
     cases db
     ·exact Or.inl rfl
     ·exact Or.inr ⟨rfl,by have:¬n<=65535:=fun h=>hgood ⟨rfl,h⟩;omega⟩
    clear hgood;rcases hcase with rfl|⟨rfl,hn⟩
    all_goals
     go_wp2_with (first |(go_at_call 207;refine(cA.out _).mono ?_;rintro e w2 ⟨rfl,rfl⟩)|(go_at_call 210;refine(Join_en w1.heap.size 122 (.string ⟨#[112,111,114,116]⟩) _ (by simp) (by simp)).mono ?_;rintro e w3 ⟨p,g,len,cap,rfl,q1,q2,q3,q4,q5,q6,hb3⟩))
     go_ret;have hx3:=(((Below.refl _ w1).alloc (Nat.le_refl _) _).trans (hb3.mono (by simp)));exact⟨_,rfl,by rw[HR.out];exact⟨Or.inr ⟨p,g,len,cap,_,rfl,q1,q2,q3,q4,q5,q6,_,rfl⟩,hT1.below hx3⟩,(below_call hb1 hx3).mono (Nat.le_of_lt hT.lt)⟩
  ·have HR:Hid (portO s x=none):=by
    show portO s x=_;unfold portO Lz.portP;rw[if_neg Hs.out];cases h:Lib.atoiAll s.data.toList with
    | ok m=>exact absurd h (ha m)
    | _=>rfl
   clear ha hv
   go_wp2_with (first |(go_at_call 207;refine(cA.out _).mono ?_;rintro e w2 ⟨rfl,rfl⟩)|(go_at_call 210;refine(Join_ee w1.heap.size 122 (.string ⟨#[112,111,114,116]⟩) t z _ (by simp) (by simp)).mono ?_;rintro e w3 ⟨p,g,len,cap,rfl,q1,q2,q3,q4,q5,q6,hb3⟩))
   go_ret;have hx3:=(((Below.refl _ w1).alloc (Nat.le_refl _) _).trans (hb3.mono (by simp)));exact⟨_,rfl,by rw[HR.out];exact⟨Or.inr ⟨p,g,len,cap,_,rfl,q1,q2,q3,q4,q5,q6,_,rfl⟩,hT1.below hx3⟩,(below_call hb1 hx3).mono (Nat.le_of_lt hT.lt)⟩
def srcZero:SrcB:=⟨3,⟨#[]⟩,0,⟨#[]⟩,⟨#[]⟩,false,-1,⟨#[]⟩⟩
def ErrSt (w:World) (n:Nat) (good:Bool) (v:Value):Prop:=(good=true/\v=.nilIface)\/(good=false/\Bady w n v)
theorem Bady.below' {w w':World} (hb:Below w.heap.size w w'):∀{n:Nat} {v:Value},Bady w n v->Bady w' n v
 | 0,_,h=>h
 | n+1,v,h=>by
   rcases h with h|⟨p,g,len,cap,v0,h1,h2,h3,h4,h5,h6,h7,h8⟩
   ·exact Or.inl (Bady.below' hb h)
   ·exact Or.inr ⟨p,g,len,cap,v0,h1,Nat.lt_of_lt_of_le h2 hb.size,Nat.lt_of_lt_of_le h3 hb.size,by rw[hb.cell (p:=⟨p,0,none⟩) h2];exact h4,h5,h6,by rw[hb.cell (p:=⟨g,0,none⟩) h3];exact h7,Bady.below' hb h8⟩
theorem ErrSt.below {w w':World} {n:Nat} {g:Bool} {v:Value} (h:ErrSt w n g v) (hb:Below w.heap.size w w'):ErrSt w' n g v:=by
 rcases h with h|⟨h1,h2⟩
 ·exact Or.inl h
 ·exact Or.inr ⟨h1,h2.below' hb⟩
theorem ErrSt.succ {w:World} {n:Nat} {g:Bool} {v:Value} (h:ErrSt w n g v):ErrSt w (n+1) g v:=by
 rcases h with h|⟨h1,h2⟩
 ·exact Or.inl h
 ·exact Or.inr ⟨h1,Or.inl h2⟩
theorem Bady.iface' {w:World}:∀{n:Nat} {v:Value},Bady w n v->∃t x,v=.iface t x
 | 0,_,⟨b,h⟩=>⟨_,_,h⟩
 | n+1,v,h=>by
   rcases h with h|⟨p,g,len,cap,v0,h1,_⟩
   ·exact Bady.iface' h
   ·exact⟨_,_,h1⟩
theorem ErrSt.form {w:World} {n:Nat} {g:Bool} {v:Value} (h:ErrSt w n g v):v=.nilIface\/∃t x,v=.iface t x:=by
 rcases h with⟨_,h⟩|⟨_,h⟩
 ·exact Or.inl h
 ·exact Or.inr h.iface'
def RSt (n:Nat) (good:Bool) (w:World) (e:Ending) (w':World):Prop:=∃v,e=.returned v/\Hid (ErrSt w' n good v)/\Below w.heap.size w w'
theorem rjoin_st {n:Nat} {v0:Value} {w:World} {e:Ending} {w':World} (h0:Bady w n v0) (h:RJoin v0 w e w'):RSt (n+1) false w e w':=by
 obtain⟨p,g,len,cap,he,q1,q2,q3,q4,q5,q6,hb⟩:=h;exact⟨_,he,Or.inr ⟨rfl,Or.inr ⟨p,g,len,cap,v0,rfl,q1,q2,q3,q4,q5,q6,h0.below' hb⟩⟩,hb⟩
theorem Join_st (g n:Nat) (g0 g1:Bool) (c0 c1:Value) (w:World) (s0:ErrSt w n g0 c0) (s1:ErrSt w n g1 c1) (h0:w.cell? ⟨g,0,none⟩=some c0) (h1:w.cell? ⟨g,1,none⟩=some c1):
  Calls Tryz.prog 210 #[.slice (some ⟨g,0,none⟩) 2 2] w (RSt (n+1) (g0&&g1) w):=by
 rcases s0 with⟨rfl,rfl⟩|⟨rfl,b0⟩
 ·rcases s1 with⟨rfl,rfl⟩|⟨rfl,b1⟩
  ·exact(Join_nn g w h0 h1).mono fun e w' ⟨he,hw⟩=>⟨_,he,Or.inl ⟨rfl,rfl⟩,by rw[hw];exact Below.refl _ _⟩
  ·obtain⟨t,x,rfl⟩:=b1.iface';exact(Join_ne g t x w h0 h1).mono fun e w' h=>rjoin_st b1 h
 ·obtain⟨t,x,rfl⟩:=b0.iface';rcases s1 with⟨rfl,rfl⟩|⟨rfl,b1⟩
  ·exact(Join_en g t x w h0 h1).mono fun e w' h=>rjoin_st b0 h
  ·obtain⟨t1,x1,rfl⟩:=b1.iface';exact(Join_ee g t x t1 x1 w h0 h1).mono fun e w' h=>rjoin_st b0 h
def RIntoSt (o:Option SrcB) (x:SrcB) (n T:Nat) (w:World) (e:Ending) (w':World):Prop:=
 ∃v y,e=.returned v/\Hid (ErrSt w' n o.isSome v)/\SrcRow w' T y/\Hid ((∀z,o=some z->z=y)/\y.path=x.path)/\Below T w w'
theorem into_st {o:Option SrcB} {x:SrcB} {n T:Nat} {w:World} {e:Ending} {w':World} (hp:∀z,o=some z->z.path=x.path) (h:RInto o x n T w e w'):RIntoSt o x n T w e w':=by
 obtain⟨v,he,hv,hb⟩:=h;have hv:=hv.out;cases o with
 | none=>
   obtain⟨h1,h2⟩:=hv;exact⟨v,x,he,Or.inr ⟨rfl,h1⟩,h2,⟨fun z hz=>(by cases hz),rfl⟩,hb⟩
 | some y=>
   obtain⟨h1,h2⟩:=hv;exact⟨v,y,he,Or.inl ⟨rfl,h1⟩,h2,⟨fun z hz=>(Option.some.inj hz).symm,hp y rfl⟩,hb⟩
theorem hostO_path {s:ByteArray} {x z:SrcB} (h:hostO s x=some z):z.path=x.path:=by
 unfold hostO at h;split at h
 ·rw[<-Option.some.inj h]
 ·split at h
  ·rw[<-Option.some.inj h]
  ·cases h
theorem portO_path {s:ByteArray} {x z:SrcB} (h:portO s x=some z):z.path=x.path:=by
 unfold portO at h;obtain⟨n,_,hn⟩:=Option.map_eq_some_iff.1 h;rw[<-hn]
theorem host_st (s:ByteArray) (hs:s.size<=1048576) (T:Nat) (x:SrcB) (w:World) (hE:Env w) (hT:SrcRow w T x):
 Calls Tryz.prog 209 #[.string s,.pointer (some ⟨T,0,none⟩)] w (RIntoSt (hostO s x) x 0 T w):=(host_any s hs T x w hE hT).mono fun _ _ h=>into_st (fun _ hz=>hostO_path hz) h
theorem port_st (s:ByteArray) (hs:s.size<=1048576) (T:Nat) (x:SrcB) (w:World) (hE:Env w) (hT:SrcRow w T x):
 Calls Tryz.prog 211 #[.string s,.pointer (some ⟨T,0,none⟩)] w (RIntoSt (portO s x) x 1 T w):=(port_any s hs T x w hE hT).mono fun _ _ h=>into_st (fun _ hz=>portO_path hz) h
theorem hosted_spec (nm nu r:ByteArray) (y y1 y2:SrcB) (ok2 gp:Bool) (hy:y={srcZero with scheme:=y.scheme,path:=y.path}) (hnm:nm.data.toList=(Lib.cut r.data.toList [58]).1) (hnu:nu.data.toList=(Lib.cut r.data.toList [58]).2.1)
  (hok:(Lib.cut r.data.toList [58]).2.2=ok2) (h1:∀z,hostO nm y=some z->z=y1) (h2:ok2=true->∀z,portO nu y1=some z->z=y2) (h3:ok2=false->y2=y1) (hgp:(y.path.data.toList.isEmpty||Lz.allB Lz.isSeen y.path.data.toList)=gp):
  Lz.hostedQ y.scheme.data.toList y.path.data.toList r.data.toList=if((hostO nm y).isSome&&(if ok2 then(portO nu y1).isSome else true))&&gp then some y2.src else none:=by
 have hh:Lz.hostP nm.data.toList=(hostO nm y).map (fun z=>(z.wild,z.host.data.toList)):=by
  unfold Lz.hostP hostO;split
  ·rw[hy];rfl
  ·split<;>rfl
 unfold Lz.hostedQ;rw[<-hnm,<-hnu,hh,hok,hgp];cases ho:hostO nm y with
 | none=>rfl
 | some z=>
   have hz:=h1 z ho;subst hz
   have hz2:z={y with wild:=z.wild,host:=z.host}:=by
    unfold hostO at ho;split at ho
    ·rw[<-Option.some.inj ho]
    ·split at ho
     ·rw[<-Option.some.inj ho]
     ·cases ho
   cases ok2 with
   | false=>
     have h32:=h3 rfl;subst h32;simp only[Option.map_some,Option.isSome_some,Bool.true_and,Bool.false_eq_true,if_false];cases gp
     ·rfl
     ·simp only[if_true];rw[hz2,hy];rfl
   | true=>
     simp only[Option.map_some,Option.isSome_some,Bool.true_and,if_true]
     have hp:Lz.portP nu.data.toList=(portO nu z).map (·.port):=by
      unfold portO;rw[Option.map_map]
      simp[Function.comp_def]
     rw[hp];cases hpo:portO nu z with
     | none=>rfl
     | some q=>
       have hq:=h2 rfl q hpo;subst hq
       have hq2:q={z with port:=q.port}:=by
        unfold portO at hpo;obtain⟨n,_,hn⟩:=Option.map_eq_some_iff.1 hpo;rw[<-hn]
       simp only[Option.map_some,Option.isSome_some,Bool.true_and];cases gp
       ·rfl
       ·simp only[if_true];rw[hq2,hz2,hy];rfl
theorem extract_tail (s:ByteArray) (k:Nat):(s.extract k s.size).data.toList=s.data.toList.drop k:=by
 rw[Lib.extract_data,List.take_of_length_le (by rw[List.length_drop,len_of_size];exact Nat.le_refl _)]
theorem extract_head (s:ByteArray) (k:Nat):(s.extract 0 k).data.toList=s.data.toList.take k:=by
 rw[Lib.extract_data];rfl
theorem Bady.setRow {w:World} {R:Nat} {cs:Array Value} {t:TypeId} {fr:Nat×Nat} (hr:w.heap[R]? =some (.cells cs t fr)) (h0:cs[0]? =some (.int .i64 0)) (cells:Array Value):∀{n:Nat} {v:Value},Bady w n v->Bady (w.setRow R cells) n v
 | 0,_,h=>h
 | n+1,v,h=>by
   have hc:w.cell? ⟨R,0,none⟩=some (.int .i64 0):=by rw[cell_of_row w R 0 _ _ _ hr];exact h0
   rcases h with h|⟨p,g,len,cap,v0,h1,h2,h3,h4,h5,h6,h7,h8⟩
   ·exact Or.inl (Bady.setRow hr h0 cells h)
   ·have hpR:p≠R:=by rintro rfl;rw[hc]at h4;cases h4
    have hgR:g≠R:=by
     rintro rfl;rw[hc]at h7;obtain⟨t,x,hx⟩:=h8.iface';rw[hx]at h7;cases h7
    exact Or.inr ⟨p,g,len,cap,v0,h1,by rw[setRow_size];exact h2,by rw[setRow_size];exact h3,by rw[cell_setRow_other _ _ _ _ hpR];exact h4,h5,h6,by rw[cell_setRow_other _ _ _ _ hgR];exact h7,Bady.setRow hr h0 cells h8⟩
theorem rsrc_fin {o:Option Lz.Src} {gg:Bool} {y:SrcB} {v:Value} {w:World} {n R:Nat} {cs:Array Value} {t:TypeId} {fr:Nat×Nat} (hr:w.heap[R]? =some (.cells cs t fr)) (h0:cs[0]? =some (.int .i64 0)) (cells:Array Value)
  (ho:o=if gg then some y.src else none) (hv:ErrSt w n gg v):Hid (SrcRes o y (w.setRow R cells) n v):=by
 rcases hv with⟨rfl,rfl⟩|⟨rfl,hb⟩
 ·subst ho;exact⟨rfl,rfl⟩
 ·subst ho;exact hb.setRow hr h0 cells
theorem ErrSt.zero {w w':World} {g:Bool} {v:Value} (h:ErrSt w 0 g v):ErrSt w' 0 g v:=h
theorem cut_sizes (s p:List UInt8):(Lib.cut s p).1.length<=s.length/\(Lib.cut s p).2.1.length<=s.length:=by
 unfold Lib.cut;split
 ·exact⟨by simp[List.length_take];omega,by simp[List.length_drop]⟩
 ·simp
theorem IndexByte_47 (s:ByteArray) (w:World):Calls Tryz.prog 105 #[.string s,.int .u8 47] w fun e w'=>e=.returned (.int .i64 (Lib.indexByte s.data.toList 47))/\w=w':=IndexByte_c s 47 w
theorem indexByte_lt (l:List UInt8) (c:UInt8):Lib.indexByte l c<l.length:=by
 induction l with
 | nil=>unfold Lib.indexByte;simp
 | cons b l ih=>
   unfold Lib.indexByte;split
   ·simp
   ·split
    ·simp
     omega
    ·simp
     omega
theorem alloc_two {w w1:World} {o1 o2:Obj} (hb:Below ((w.alloc o1).alloc o2).heap.size ((w.alloc o1).alloc o2) w1):w1.heap[w.heap.size]? =some o1/\w1.heap[w.heap.size+1]? =some o2:=by
 have h1:((w.heap.push o1).push o2)[w.heap.size]? =some o1:=by
  rw[Array.getElem?_push,if_neg (by simp),Array.getElem?_push,if_pos rfl]
 have h2:((w.heap.push o1).push o2)[w.heap.size+1]? =some o2:=by
  rw[Array.getElem?_push,if_pos (by simp)]
 exact⟨(hb.block _ (by simp;omega)).trans h1,(hb.block _ (by simp)).trans h2⟩
structure HRows (w wx:World) (x:SrcB):Prop where
 row:∃cs:Array Value,cs.size=8/\cs[0]? =some (.int .i64 0)/\wx.heap[w.heap.size]? =some (.cells cs 59 (0,0))
 src:SrcRow wx (w.heap.size+1) x
 below:Below w.heap.size w wx
theorem HRows.call {w w1 w2:World} {x:SrcB} (h:HRows w w1 x) (hb:Below w1.heap.size w1 w2):HRows w w2 x:=by
 obtain⟨⟨cs,h1,h2,h3⟩,h4,h5⟩:=h;exact⟨⟨cs,h1,h2,by rw[hb.block _ (Array.getElem?_eq_some_iff.1 h3).1];exact h3⟩,h4.below hb,below_call h5 hb⟩
theorem HRows.into {w w1 w2:World} {x y:SrcB} (h:HRows w w1 x) (hb:Below (w.heap.size+1) w1 w2) (hy:SrcRow w2 (w.heap.size+1) y):HRows w w2 y:=by
 obtain⟨⟨cs,h1,h2,h3⟩,h4,h5⟩:=h;exact⟨⟨cs,h1,h2,by rw[hb.block _ (by omega)];exact h3⟩,hy,h5.trans (hb.mono (by omega))⟩
theorem HRows.drew {w w1:World} {x:SrcB} (h:HRows w w1 x):HRows w w1.drew x:=⟨h.row,h.src,h.below.drew⟩
def HRel1 (s:ByteArray) (w:World) (v:Value) (wx:World):Prop:=
 ∃(rest:ByteArray) (x:SrcB),v=.string rest/\rest.size<=1048576/\HRows w wx x/\Hid (Lz.hostedS s.data.toList=Lz.hostedP x.scheme.data.toList rest.data.toList/\x={srcZero with scheme:=x.scheme})
def HRel2 (s:ByteArray) (w:World) (v:Value) (wx:World):Prop:=
 ∃(r:ByteArray) (y:SrcB),v=.string r/\r.size<=1048576/\y.path.size<=1048576/\HRows w wx y/\Hid (Lz.hostedS s.data.toList=Lz.hostedQ y.scheme.data.toList y.path.data.toList r.data.toList/\y={srcZero with scheme:=y.scheme,path:=y.path})
def HRel3 (s:ByteArray) (w:World) (v:Value) (wx:World):Prop:=
 ∃(gg:Bool) (y:SrcB),Hid (ErrSt wx 2 gg v)/\y.path.size<=1048576/\HRows w wx y/\Hid (∀gp,(y.path.data.toList.isEmpty||Lz.allB Lz.isSeen y.path.data.toList)=gp->Lz.hostedS s.data.toList=if gg&&gp then some y.src else none)
def HRel4 (s:ByteArray) (w:World) (v:Value) (wx:World):Prop:=
 ∃(gg:Bool) (y:SrcB),Hid (ErrSt wx 3 gg v)/\HRows w wx y/\Hid (Lz.hostedS s.data.toList=if gg then some y.src else none)
theorem hosted_any (s:ByteArray) (hs:s.size<=1048576) (w:World) (hE:Env w):Calls Tryz.prog 164 #[.string s] w (RSrc (Lz.hostedS s.data.toList) 3 w):=by
 go_enter Tryz.func164,Tryz.ntmps164
 go_wp2_with fail
 have hx0:Below w.heap.size w ((w.alloc (.cells #[.int .i64 0,.string ⟨#[]⟩,.int .i64 0,.string ⟨#[]⟩,.string ⟨#[]⟩,.bool false,.int .i64 0,.string ⟨#[]⟩] 59)).alloc (.cells srcZero.cells 59)):=((Below.refl _ w).alloc (Nat.le_refl _) _).alloc (by simp) _;refine(Cut_c s ⟨#[58,47,47]⟩ (by omega) _ (hE.below hx0)).mono ?_;rintro e w1 ⟨hd,rest0,rfl,hhd,hrest,hb1⟩;obtain⟨hR0,hT1⟩:=alloc_two hb1;have hx1:=below_call hx0 hb1;have hH1:HRows w w1 srcZero:=⟨⟨_,rfl,rfl,hR0⟩,hT1,hx1⟩;clear hb1 hx0 hR0 hT1 hx1;generalize hok:(Lib.cut s.data.toList (ByteArray.data ⟨#[58,47,47]⟩).toList).2.2=ok;have Hok:=Ih hok;clear hok;have hz:=cut_sizes s.data.toList [58,47,47];have hhz:hd.size<=1048576:=by rw[<-len_of_size hd,hhd.out];exact Nat.le_trans hz.1 (by rw[len_of_size];exact hs)
 have hrz:rest0.size<=1048576:=by rw[<-len_of_size rest0,hrest.out];exact Nat.le_trans hz.2 (by rw[len_of_size];exact hs)
 clear hz;have cS:=Ih (scheme_any hd (by omega) w1);generalize hsb:Lz.schemeB hd.data.toList=sb at cS;have Hsb:=Ih hsb;clear hsb
 go_upto_if 20 with fail
 go_cut [0] (fun s0 wx=>HRel1 s w s0 wx)
 case first=>
  cases ok
  ·go_wp2_with fail
   go_meet;refine⟨s,srcZero,rfl,hs,hH1,?_,rfl⟩;unfold Lz.hostedS;have h1:(Lib.cut s.data.toList [58,47,47]).2.2=false:=Hok.out;simp only[h1];rfl
  ·cases sb
   ·obtain⟨⟨cs,hcsz,hcs0,hR1⟩,hT1,hx1⟩:=hH1
    go_wp2_with (first |(go_at_call 163;refine(cS.out).mono ?_;rintro e w2 ⟨rfl,rfl⟩)|(refine store_src rfl _ _ rfl w.heap.size rfl rfl _ hR1 hcsz ?_))
    refine bodyPost_ret (results_src rfl _ _ w.heap.size ⟨0,⟨#[]⟩,0,⟨#[]⟩,⟨#[]⟩,false,0,⟨#[]⟩⟩ (0,0) rfl (setRow_heap _ _ _ _ _ _ hR1)) rfl ⟨_,_,rfl,?_,below_setRow hx1 (Nat.le_refl _) _⟩
    have hn:Lz.hostedS s.data.toList=none:=by
     unfold Lz.hostedS;have h1:(Lib.cut s.data.toList [58,47,47]).2.2=true:=Hok.out;have h2:Lz.schemeB (Lib.cut s.data.toList [58,47,47]).1=false:=by rw[<-Hsb.out,hhd.out]
     simp only[h1,h2,if_true];rfl
    rw[hn];exact Or.inl (Or.inl (Or.inl ⟨_,rfl⟩))
   ·go_wp2_with fail
    refine(cS.out).mono ?_;rintro e w2 ⟨rfl,rfl⟩
    go_wp2_with fail
    refine(Lower_c hd (by omega) _).mono ?_;rintro e w2 ⟨u,rfl,hu,hb2⟩;have hH2:=hH1.call hb2;have hT2:=hH2.src;have c3:=hT2.cell 3;have f3:=hT2.free 3;simp only[SrcB.cells]at c3
    simp at c3
    have hT3:=hT2.store (y:={srcZero with scheme:=u}) 3 (.string u) (by rfl);have hH3:=hH2.into ((Below.refl (w.heap.size+1) w2).setCell (p:=⟨w.heap.size+1,3,none⟩) (Nat.le_refl _) (.string u)) hT3;clear hT2 hT3 hb2
    go_wp2_with fail
    go_meet;refine⟨rest0,{srcZero with scheme:=u},rfl,hrz,hH3,?_,rfl⟩;unfold Lz.hostedS;have h1:(Lib.cut s.data.toList [58,47,47]).2.2=true:=Hok.out;have h2:Lz.schemeB (Lib.cut s.data.toList [58,47,47]).1=true:=by rw[<-Hsb.out,hhd.out]
    simp only[h1,h2,if_true];show _=Lz.hostedP u.data.toList _;rw[hu.out,hhd.out,hrest.out]
 case rest=>
  clear hH1 cS Hsb Hok hhd hrest hhz hrz;obtain⟨rest,x,rfl,hrz,hH1,HS⟩:=hcut
  go_wp2_with fail
  have cI:=Ih (IndexByte_47 rest wc);have hil:=indexByte_lt rest.data.toList 47;rw[len_of_size]at hil;generalize hi:Lib.indexByte rest.data.toList 47=i at cI hil;have Hi:=Ih hi;clear hi;refine(cI.out).mono ?_;rintro e w2 ⟨rfl,rfl⟩
  go_upto_if 33 with fail
  go_cut [0] (fun s0 wx=>HRel2 s w s0 wx)
  case first=>
   by_cases hi0:0<=i
   ·obtain⟨k,rfl⟩:∃k:Nat,i=k:=⟨i.toNat,by omega⟩;have hT1:=hH1.src;have c7:=hT1.cell 7;have f7:=hT1.free 7;simp only[SrcB.cells]at c7
    simp at c7
    have hT2:=hT1.store (y:={x with path:=rest.extract k rest.size}) 7 (.string (rest.extract k rest.size)) (by rfl);have hH2:=(hH1.into ((Below.refl (w.heap.size+1) wc).setCell (p:=⟨w.heap.size+1,7,none⟩) (Nat.le_refl _) (.string (rest.extract k rest.size))) hT2).drew;clear hT2 hT1
    go_wp2
    go_region
    go_wp2_with fail
    go_meet;refine⟨rest.extract 0 k,{x with path:=rest.extract k rest.size},rfl,Nat.le_trans (extract_size_le _ _ _) hrz,Nat.le_trans (extract_size_le _ _ _) hrz,hH2,?_,by rw[HS.out.2]⟩;rw[HS.out.1];unfold Lz.hostedP;rw[Hi.out,if_pos (by omega)];show _=Lz.hostedQ x.scheme.data.toList (rest.extract k rest.size).data.toList _;rw[extract_tail,extract_head];rfl
   ·have hi1:i<0:=by omega
    go_wp2_with fail
    go_meet;have h2:=HS.out.2;refine⟨rest,x,rfl,hrz,by rw[h2];exact Nat.zero_le _,hH1,?_,by rw[h2]⟩;rw[HS.out.1];unfold Lz.hostedP;rw[Hi.out,if_neg (by omega)];rw[h2];rfl
  case rest=>
   clear hH1 Hi cI hil HS hrz;obtain⟨r,y,rfl,hqz,hyz,hH2,HQ⟩:=hcut;rename_i w3
   go_wp2_with fail
   refine(Cut_c r ⟨#[58]⟩ (by omega) _ (hE.below hH2.below)).mono ?_;rintro e w4 ⟨nm,nu,rfl,hnm,hnu,hb4⟩;generalize hok:(Lib.cut r.data.toList (ByteArray.data ⟨#[58]⟩).toList).2.2=ok2;have Hok2:=Ih hok;clear hok;have hz:=cut_sizes r.data.toList [58];have hnmz:nm.size<=1048576:=by rw[<-len_of_size nm,hnm.out];exact Nat.le_trans hz.1 (by rw[len_of_size];exact hqz)
   have hnuz:nu.size<=1048576:=by rw[<-len_of_size nu,hnu.out];exact Nat.le_trans hz.2 (by rw[len_of_size];exact hqz)
   clear hz;have hH4:=hH2.call hb4;clear hH2 hb4
   go_wp2_with fail
   refine(host_st nm hnmz (w.heap.size+1) y w4 (hE.below hH4.below) hH4.src).mono ?_;rintro e w5 ⟨v1,y1,rfl,hv1,hT5,hy1,hb5⟩;have hH5:=hH4.into hb5 hT5;clear hH4 hb5 hT5
   go_upto_if 49 with fail
   go_cut [12] (fun s12 wx=>HRel3 s w s12 wx)
   case first=>
    cases ok2
    ·go_wp2_with fail
     go_meet;refine⟨(hostO nm y).isSome,y1,hv1.out.succ.succ,by rw[hy1.out.2];exact hyz,hH5,fun gp hgp=>?_⟩;rw[HQ.out.1,hosted_spec nm nu r y y1 y1 false gp HQ.out.2 hnm.out hnu.out Hok2.out hy1.out.1 (fun h=>by cases h) (fun _=>rfl) (by rw[<-hy1.out.2];exact hgp)];simp only[Bool.false_eq_true,if_false,Bool.and_true]
    ·go_wp2_with fail
     refine(port_st nu hnuz (w.heap.size+1) y1 w5 (hE.below hH5.below) hH5.src).mono ?_;rintro e w6 ⟨v2,y2,rfl,hv2,hT6,hy2,hb6⟩;have hH6:=hH5.into hb6 hT6;have f1:=hv1.out.form;have f2:=hv2.out.form;clear hH5 hb6 hT6;rcases f1 with rfl|⟨t1,q1,rfl⟩<;>rcases f2 with rfl|⟨t2,q2,rfl⟩
     all_goals
      go_wp2_with fail
      refine(Join_st w6.heap.size 1 _ _ _ _ _ hv1.out.zero.succ (hv2.out.below ((Below.refl _ w6).alloc (Nat.le_refl _) _)) (by simp) (by simp)).mono ?_;rintro e w7 ⟨v3,rfl,hv3,hb7⟩;have hH7:=hH6.call (((Below.refl _ w6).alloc (Nat.le_refl _) _).trans (hb7.mono (by simp)));clear hb7
      go_wp2_with fail
      go_meet;refine⟨_,y2,hv3.out,by rw[hy2.out.2,hy1.out.2];exact hyz,hH7,fun gp hgp=>?_⟩;rw[HQ.out.1];exact hosted_spec nm nu r y y1 y2 true gp HQ.out.2 hnm.out hnu.out Hok2.out hy1.out.1 (fun _=>hy2.out.1) (fun h=>by cases h) (by rw[<-hy1.out.2,<-hy2.out.2];exact hgp)
   case rest=>
    clear hH5 hv1 hy1 Hok2 hnm hnu hnmz hnuz HQ hyz hqz;obtain⟨gg,y2,hv3,hy2p,hH7,HF⟩:=hcut;have hT7:=hH7.src;have c7:=hT7.cell 7;have f7:=hT7.free 7;simp only[SrcB.cells]at c7
    simp at c7
    have cP:=Ih (fun w=>all_any pred_seen y2.path (by omega) w);generalize hsn:Lz.allB Lz.isSeen y2.path.data.toList=sn at cP;have Hsn:=Ih hsn;clear hsn hT7;obtain⟨gp,hgp⟩:∃gp,gp=(y2.path.data.toList.isEmpty||sn):=⟨_,rfl⟩;have Hgp:=Ih hgp;clear hgp
    go_upto_region 14 with fail
    go_cut [63] (fun s63 wx=>s63=.bool (!gp)/\HRows w wx y2/\Hid (ErrSt wx 2 gg u12))
    case first=>
     by_cases hp0:0<y2.path.size
     ·have he:=isEmpty_of_pos hp0;have hge:gp=sn:=by rw[Hgp.out];rw[Lib.toList_data]at he;rw[he];rfl
      subst hge
      go_wp2_with (go_at_call 207;refine(cP.out _).mono ?_;rintro e w8 ⟨rfl,rfl⟩)
      go_meet;exact⟨rfl,hH7,hv3⟩
     ·have he:=isEmpty_of_size (show y2.path.size=0 by omega);have hge:gp=true:=by rw[Hgp.out];rw[Lib.toList_data]at he;rw[he];rfl
      subst hge
      go_wp2_with (go_at_call 207;refine(cP.out _).mono ?_;rintro e w8 ⟨rfl,rfl⟩)
      go_meet;exact⟨rfl,hH7,hv3⟩
    case rest=>
     clear hH7 hv3 c7 f7 cP;obtain⟨rfl,hH7,hv3⟩:=hcut
     go_upto_if 63 with fail
     go_cut [12] (fun s12 wx=>HRel4 s w s12 wx)
     case first=>
      have HG:=HF.out gp (by rw[Hsn.out,Hgp.out]);have HG:=Ih HG;clear HF;cases gp
      ·have f3:=hv3.out.form;rcases f3 with rfl|⟨t3,q3,rfl⟩
       all_goals
        go_wp2_with fail
        refine(Join_st _ 2 _ false _ (.iface 122 (.string ⟨#[112,97,116,104]⟩)) _ (hv3.out.below ((Below.refl _ _).alloc (Nat.le_refl _) _)) (Or.inr ⟨rfl,Or.inl (Or.inl ⟨_,rfl⟩)⟩) (by simp) (by simp)).mono ?_;rintro e w8 ⟨v4,rfl,hv4,hb8⟩;have hH8:=hH7.call (((Below.refl _ _).alloc (Nat.le_refl _) _).trans (hb8.mono (by simp)));clear hb8 hH7 hv3
        go_wp2_with fail
        go_meet;exact⟨_,y2,hv4.out,hH8,HG.out⟩
      ·go_wp2_with fail
       go_meet;exact⟨gg,y2,hv3.out.succ,hH7,by have h:=HG.out;rw[Bool.and_true]at h;exact h⟩
     case rest=>
      clear hH7 hv3 HF Hgp Hsn;obtain⟨gg,y3,hv4,hH9,HG⟩:=hcut;obtain⟨⟨cs,hcsz,hcs0,hR9⟩,hT9,hx9⟩:=hH9;have Hcs0:=Ih hcs0;have Hv:=Ih hv4;clear hcs0;have hTl:_=some (Obj.cells #[.int .i64 y3.kind,.string y3.text,.int .i64 y3.bits,.string y3.scheme,.string y3.host,.bool y3.wild,.int .i64 y3.port,.string y3.path] 59 (0,0)):=hT9;clear hT9
      go_wp2_with (first |(refine wpList_load_row rfl 59 _ rfl (w.heap.size+1) rfl 59 _ (0,0) _ hTl Tryz.underlying59 rfl srcSize ?_)|(refine store_src rfl _ _ rfl w.heap.size rfl rfl _ hR9 hcsz ?_))
      refine bodyPost_ret (results_src (u:=3) rfl _ _ w.heap.size y3 (0,0) rfl (setRow_heap _ _ _ _ _ _ hR9)) rfl ⟨y3,_,rfl,rsrc_fin hR9 Hcs0.out _ HG.out hv4.out,below_setRow hx9 (Nat.le_refl _) _⟩
theorem Bady.up {w:World} {n m:Nat} {v:Value} (hnm:n<=m) (h:Bady w n v):Bady w m v:=by
 induction hnm with
 | refl=>exact h
 | step _ ih=>exact Or.inl ih
theorem SrcRes.up {o:Option Lz.Src} {x:SrcB} {w:World} {n m:Nat} {v:Value} (hnm:n<=m) (h:SrcRes o x w n v):SrcRes o x w m v:=by
 cases o with
 | none=>exact Bady.up hnm h
 | some y=>exact h
theorem SrcRes.setRow {o:Option Lz.Src} {x:SrcB} {w:World} {R:Nat} {cs:Array Value} {t:TypeId} {fr:Nat×Nat} {n:Nat} {v:Value} (hr:w.heap[R]? =some (.cells cs t fr)) (h0:cs[0]? =some (.int .i64 0)) (cells:Array Value) (h:SrcRes o x w n v):SrcRes o x (w.setRow R cells) n v:=by
 cases o with
 | none=>exact Bady.setRow hr h0 cells h
 | some y=>exact h
theorem trimSuffix_le (s p:List UInt8):(Lib.trimSuffix s p).length<=s.length:=by
 unfold Lib.trimSuffix;split
 ·simp[List.length_take]
 ·exact Nat.le_refl _
theorem alloc_row_one {w w1:World} {o:Obj} (hb:Below (w.alloc o).heap.size (w.alloc o) w1):w1.heap[w.heap.size]? =some o:=by
 rw[hb.block w.heap.size (by simp)];show(w.heap.push _)[w.heap.size]? =_
 simp
theorem head_at {s:ByteArray} (h:0<s.size):s.data.toList.head? =some s[0]:=by
 have:=get_of_lt h;cases hl:s.data.toList with
 | nil=>rw[hl]at this;cases this
 | cons a r=>rw[hl]at this;simpa using this
theorem last_at {s:ByteArray} (h:0<s.size):s.data.toList.getLast? =some (s[s.size-1]'(by omega)):=by
 rw[List.getLast?_eq_getElem?,len_of_size];exact get_of_lt (by omega)
theorem byte_beq (a b:UInt8):((a.toNat:Int)==(b.toNat:Int))=(a==b):=by
 by_cases h:a=b
 ·subst h;simp
 ·have:¬(a.toNat:Int)=b.toNat:=fun e=>h (UInt8.toNat_inj.1 (by omega));rw[beq_eq_false_iff_ne.2 this,beq_eq_false_iff_ne.2 h]
theorem dropLast_extract (s:ByteArray):(s.extract 1 (s.size-1)).data.toList=(s.data.toList.drop 1).dropLast:=by
 rw[Lib.extract_data,List.dropLast_eq_take,List.length_drop,len_of_size]
theorem parse_any (s:ByteArray) (hs:s.size<=1048576) (w:World) (hE:Env w):Calls Tryz.prog 109 #[.string s] w (RSrc (Lz.parseS s.data.toList) 3 w):=by
 obtain⟨q,hq⟩:∃q,q=Lz.quotes s.data.toList:=⟨_,rfl⟩;have Hq:=Ih hq;clear hq;have hx0:Below w.heap.size w (w.alloc (.cells #[.int .i64 0,.string ⟨#[]⟩,.int .i64 0,.string ⟨#[]⟩,.string ⟨#[]⟩,.bool false,.int .i64 0,.string ⟨#[]⟩] 59)):=(Below.refl _ w).alloc (Nat.le_refl _) _;have hE0:=hE.below hx0;go_enter Tryz.func109,Tryz.ntmps109
 go_upto_region 1 with fail
 go_cut [21] (fun s21 wx=>s21=.bool q/\wx=(w.alloc (.cells #[.int .i64 0,.string ⟨#[]⟩,.int .i64 0,.string ⟨#[]⟩,.string ⟨#[]⟩,.bool false,.int .i64 0,.string ⟨#[]⟩] 59)))
 case first=>
  by_cases h1:1<s.size
  ·have h0:0<s.size:=by omega
   have hl:s.size-1<s.size:=by omega
   have g0:=head_at h0;have g1:=last_at h0
   have hqe:q=((s[0].toNat:Int)==39&&((s[s.size-1].toNat:Int)==39)):=by
    rw[Hq.out];unfold Lz.quotes;rw[g0,g1,len_of_size,decide_eq_true h1];have e1:=byte_beq s[0] 39;have e2:=byte_beq (s[s.size-1]'(by omega)) 39;simp only[Bool.true_and];rw[show((39:UInt8).toNat:Int)=39 from rfl]at e1 e2;rw[e1,e2];rfl
   have Hqe:=Ih hqe;clear hqe g0 g1;generalize ha:((s[0].toNat:Int)==39)=a at Hqe;generalize hb:((s[s.size-1].toNat:Int)==39)=b at Hqe;cases a<;>cases b
   all_goals
    go_wp2_with fail
    all_goals
     go_meet;exact⟨by have h:=Hqe.out;subst h;rfl,rfl⟩
  ·have hqe:q=false:=by
    rw[Hq.out];unfold Lz.quotes;rw[len_of_size,decide_eq_false h1];rfl
   have Hqe:=Ih hqe;clear hqe;have h1':(s.size:Int)<=1:=by omega
   clear h1
   go_wp2_with fail
   all_goals
    go_meet;exact⟨by have h:=Hqe.out;subst h;rfl,rfl⟩
 case rest=>
  obtain⟨rfl,rfl⟩:=hcut;cases q
  ·go_wp2_with fail
   refine(CutSuffix_c s ⟨#[58]⟩ (by omega) _).mono ?_;rintro e w1 ⟨v,rfl,hv,rfl⟩
   have hvz:v.size<=1048576:=by
    rw[<-len_of_size v,hv.out];exact Nat.le_trans (trimSuffix_le _ _) (by rw[len_of_size];exact hs)
   have cS:=Ih (fun w=>scheme_any v (by omega) w);generalize hsf:Lib.hasSuffix s.data.toList (ByteArray.data ⟨#[58]⟩).toList=sf;have Hsf:=Ih hsf;clear hsf;generalize hsb:Lz.schemeB v.data.toList=sb at cS;have Hsb:=Ih hsb;clear hsb;by_cases hyes:sf=true/\sb=true
   ·obtain⟨rfl,rfl⟩:=hyes
    go_wp2_with fail
    refine(cS.out _).mono ?_;rintro e w1 ⟨rfl,rfl⟩
    go_wp2_with fail
    refine(Lower_c v (by omega) _).mono ?_;rintro e w1 ⟨u,rfl,hu,hb1⟩;have hR1:=alloc_row_one hb1;have hx1:=below_call hx0 hb1
    go_wp2_with (refine store_src rfl _ _ rfl w.heap.size rfl rfl _ hR1 rfl ?_)
    refine bodyPost_ret (results_src (u:=3) rfl _ _ w.heap.size ⟨2,⟨#[]⟩,0,u,⟨#[]⟩,false,-1,⟨#[]⟩⟩ (0,0) rfl (setRow_heap _ _ _ _ _ _ hR1)) rfl ⟨_,_,rfl,?_,below_setRow hx1 (Nat.le_refl _) _⟩
    have hp:Lz.parseS s.data.toList=some (Lz.schemeS (Lz.low v.data.toList)):=by
     unfold Lz.parseS;have h1:Lib.hasSuffix s.data.toList [58]=true:=Hsf.out;have h2:v.data.toList=Lib.trimSuffix s.data.toList [58]:=hv.out;rw[<-Hq.out,<-h2,h1,Hsb.out];rfl
    rw[hp];exact⟨by unfold SrcB.src;rw[hu.out];rfl,rfl⟩
   ·have hp:Lz.parseS s.data.toList=Lz.hostedS s.data.toList:=by
     unfold Lz.parseS;have h2:v.data.toList=Lib.trimSuffix s.data.toList [58]:=hv.out;have h1:Lib.hasSuffix s.data.toList [58]=sf:=Hsf.out;rw[<-Hq.out,<-h2,h1,Hsb.out];cases sf<;>cases sb<;>simp_all
    have Hp:=Ih hp;have hcase:(sf=false)\/(sf=true/\sb=false):=by cases sf<;>cases sb<;>simp_all
    clear hyes hp;rcases hcase with rfl|⟨rfl,rfl⟩
    all_goals
     go_wp2_with (first |(go_at_call 163;refine(cS.out _).mono ?_;rintro e w1 ⟨rfl,rfl⟩)|(go_at_call 164;fail))
     refine(hosted_any s hs _ hE0).mono ?_;rintro e w1 ⟨x,v2,rfl,hv2,hb1⟩;have hR1:=alloc_row_one hb1;have hx1:=below_call hx0 hb1;clear hb1;obtain⟨k1,t1,b1,sc1,ho1,wd1,po1,pa1⟩:=x
     go_wp2_with (refine store_src rfl _ _ rfl w.heap.size rfl rfl _ hR1 rfl ?_)
     refine bodyPost_ret (results_src (u:=3) rfl _ _ w.heap.size ⟨k1,t1,b1,sc1,ho1,wd1,po1,pa1⟩ (0,0) rfl (setRow_heap _ _ _ _ _ _ hR1)) rfl ⟨_,_,rfl,?_,below_setRow hx1 (Nat.le_refl _) _⟩;rw[Hp.out];exact hv2.out.setRow hR1 rfl _
  ·have h1:1<s.size:=by
    have h:=Hq.out;unfold Lz.quotes at h;rw[len_of_size]at h;by_cases h1:1<s.size
    ·exact h1
    ·rw[decide_eq_false h1]at h
     simp at h
   have hz:=extract_size_le s 1 (s.size-1);have hc1:((s.size:Int)-1)=((s.size-1:Nat):Int):=by omega
   have Hc1:=Ih hc1;clear hc1
   go_wp2_with fail
   refine(quoted_any (s.extract 1 (s.size-1)) (by omega) _ hE0).mono ?_;rintro e w1 ⟨x,v2,rfl,hv2,hb1⟩;have hR1:=alloc_row_one hb1;have hx1:=below_call hx0 hb1;clear hb1
   have hp:Lz.parseS s.data.toList=Lz.quotedS (s.extract 1 (s.size-1)).data.toList:=by
    unfold Lz.parseS;rw[<-Hq.out,dropLast_extract,if_pos rfl]
   have Hp:=Ih hp;clear hp;obtain⟨k1,t1,b1,sc1,ho1,wd1,po1,pa1⟩:=x
   go_wp2_with (refine store_src rfl _ _ rfl w.heap.size rfl rfl _ hR1 rfl ?_)
   refine bodyPost_ret (results_src (u:=3) rfl _ _ w.heap.size ⟨k1,t1,b1,sc1,ho1,wd1,po1,pa1⟩ (0,0) rfl (setRow_heap _ _ _ _ _ _ hR1)) rfl ⟨_,_,rfl,?_,below_setRow hx1 (Nat.le_refl _) _⟩;rw[Hp.out];exact(hv2.out.up (Nat.zero_le 3)).setRow hR1 rfl _
def parseR (l:List UInt8):Lz.Src:=(Lz.parseS l).getD ⟨0,[],0,[],[],false,0,[]⟩
def parseE (l:List UInt8):Int:=if(Lz.parseS l).isSome then 0 else 250
def RParse (l:List UInt8) (w:World) (e:Ending) (w':World):Prop:=
 ∃x:SrcB,e=.returned (.tuple #[x.val,.int .i64 (parseE l)])/\Hid (x.src=parseR l)/\Below w.heap.size w w'
theorem results_src2 {fn:Func} {p u:Tmp} (h:fn.results= #[.cell p 59,.tmp u]) (tmps:Array Value) (w:World) (g:Nat) (x:SrcB) (fr:Nat×Nat) (n:Int)
  (hp:tmps.getD p undef=.pointer (some ⟨g,0,none⟩)) (hu:tmps.getD u undef=.int .i64 n) (hg:w.heap[g]? =some (.cells #[.int .i64 x.kind,.string x.text,.int .i64 x.bits,.string x.scheme,.string x.host,.bool x.wild,.int .i64 x.port,.string x.path] 59 fr)):
  (results fn tmps).run Tryz.prog w=.ok (.tuple #[x.val,.int .i64 n]) w:=by
 rw[<-hu];exact results_src h tmps w g x fr hp hg
theorem Parse_any (s:ByteArray) (hs:s.size<=1048576) (w:World) (hE:Env w):Calls Tryz.prog 62 #[.string s] w (RParse s.data.toList w):=by
 have hx0:Below w.heap.size w (w.alloc (.cells #[.int .i64 0,.string ⟨#[]⟩,.int .i64 0,.string ⟨#[]⟩,.string ⟨#[]⟩,.bool false,.int .i64 0,.string ⟨#[]⟩] 59)):=(Below.refl _ w).alloc (Nat.le_refl _) _;have hE0:=hE.below hx0;go_enter Tryz.func62,Tryz.ntmps62
 go_wp2_with fail
 refine(parse_any s hs _ hE0).mono ?_;rintro e w1 ⟨x,v,rfl,hv,hb1⟩;have hR1:=alloc_row_one hb1;have hx1:=below_call hx0 hb1;have hE1:=hE.below hx1;clear hb1;obtain⟨k1,t1,b1,sc1,ho1,wd1,po1,pa1⟩:=x
 dsimp only[SrcB.val]
 have hR2:∀o1 o2:Obj,((w1.alloc o1).alloc o2).heap[w.heap.size]? =some (.cells #[.int .i64 0,.string ⟨#[]⟩,.int .i64 0,.string ⟨#[]⟩,.string ⟨#[]⟩,.bool false,.int .i64 0,.string ⟨#[]⟩] 59 (0,0)):=fun o1 o2=>by
  have hl:=(Array.getElem?_eq_some_iff.1 hR1).1;rw[Below.heap_alloc _ _ _ (by simp;omega),Below.heap_alloc _ _ _ hl];exact hR1
 cases hp:Lz.parseS s.data.toList with
 | some y=>
   rw[hp]at hv;obtain⟨hy,rfl⟩:=hv.out;have Hy:=Ih hy;clear hy hv;have HE:Hid (parseE s.data.toList=0/\parseR s.data.toList=y):=by refine⟨?_,?_⟩<;>simp[parseE,parseR,hp]
   clear hp
   go_wp2_with fail
   refine(As_nil _ _).mono ?_;rintro e w2 ⟨rfl,rfl⟩
   go_wp2_with (refine store_src rfl _ _ rfl w.heap.size rfl rfl _ (hR2 _ _) rfl ?_)
   refine bodyPost_ret (results_src2 (u:=3) rfl _ _ w.heap.size ⟨k1,t1,b1,sc1,ho1,wd1,po1,pa1⟩ (0,0) 0 rfl rfl (setRow_heap _ _ _ _ _ _ (hR2 _ _))) rfl ⟨⟨k1,t1,b1,sc1,ho1,wd1,po1,pa1⟩,by rw[HE.out.1],by show _=_;rw[HE.out.2];exact Hy.out,below_setRow ?_ (Nat.le_refl _) _⟩;exact(hx1.alloc (by have:=hx1.size;omega) _).alloc (by have:=hx1.size;simp;omega) _
 | none=>
   rw[hp]at hv;have hB:Bady w1 3 v:=hv.out;obtain⟨t0,x0,rfl⟩:=hB.iface;have HE:Hid (parseE s.data.toList=250/\parseR s.data.toList=⟨0,[],0,[],[],false,0,[]⟩):=by refine⟨?_,?_⟩<;>simp[parseE,parseR,hp]
   clear hp hv;have hxa:∀o1 o2:Obj,Below w1.heap.size w1 ((w1.alloc o1).alloc o2):=fun o1 o2=>((Below.refl _ w1).alloc (Nat.le_refl _) _).alloc (by simp) _;have HB:=Ih hB;clear hB
   go_wp2_with fail
   refine(As_bady 3 t0 x0 (w1.heap.size+1) (.string ⟨#[]⟩) _ (hE1.below (hxa _ _)) (HB.out.below (hxa _ _)) (by simp) (by simp)).mono ?_;rintro e w2 ⟨rfl,hb2⟩
   have hR3:w2.heap[w.heap.size]? =some (.cells #[.int .i64 0,.string ⟨#[]⟩,.int .i64 0,.string ⟨#[]⟩,.string ⟨#[]⟩,.bool false,.int .i64 0,.string ⟨#[]⟩] 59 (0,0)):=by
    have hl:=(Array.getElem?_eq_some_iff.1 hR1).1;rw[hb2.block _ (by omega)];exact hR2 _ _
   have hx3:Below w.heap.size w w2:=(hx1.trans ((hxa _ _).mono hx1.size)).trans (hb2.mono (by have:=hx1.size;omega));clear hb2 hR2 hxa hR1
   go_wp2_with (refine store_src rfl _ _ rfl w.heap.size rfl rfl _ hR3 rfl ?_)
   refine bodyPost_ret (results_src2 (u:=3) rfl _ _ w.heap.size ⟨0,⟨#[]⟩,0,⟨#[]⟩,⟨#[]⟩,false,0,⟨#[]⟩⟩ (0,0) 250 rfl rfl (setRow_heap _ _ _ _ _ _ hR3)) rfl ⟨⟨0,⟨#[]⟩,0,⟨#[]⟩,⟨#[]⟩,false,0,⟨#[]⟩⟩,by rw[HE.out.1],by show _=_;rw[HE.out.2];rfl,below_setRow hx3 (Nat.le_refl _) _⟩
theorem low25I (c:UInt8):((Lz.low1 c).toNat:Int)=if 65<=(c.toNat:Int)/\(c.toNat:Int)<=90 then(c.toNat:Int)+32 else c.toNat:=by
 revert c
 exact Lz.byte_all (by decide +kernel)
theorem Lower02_any (s:ByteArray) (hs:s.size<=140737488355328) (w:World):Calls Tryz.prog 30 #[.string s] w fun e w'=>e=.returned (.string ⟨(Lz.low s.data.toList).toArray⟩)/\Below w.heap.size w w':=by
 obtain⟨i0,hi,hz0,hz1,hz2⟩:=info_parts Tryz.infoU8;go_enter Tryz.func30,Tryz.ntmps30
 go_wp2
 go_loopw [3,4] (fun v i wr=>∃k:Nat,k<=s.size/\i=.int .i64 k/\wr.ownsRow w.heap.size 5 1 v k (u8s (Lz.low (s.data.toList.take k)))/\Below w.heap.size w wr) (fun _ i _=>s.size-(intOf i).toNat)
 case atStart=>exact⟨0,Nat.zero_le _,rfl,World.ownsRow_nil _ _ _ _,Below.refl _ _⟩
 case round=>
  obtain⟨k,hk,rfl,hown,hb⟩:=hrel;have Hown:=Ih hown;have hsz:=hb.size;by_cases hlt:k<s.size
  ·have hc:=byte_lt s[k];have hl:=low25I s[k]
   have hst:u8s (Lz.low (s.data.toList.take k))++[.int .u8 ((Lz.low1 s[k]).toNat:Int)]=u8s (Lz.low (s.data.toList.take (k+1))):=by
    rw[u8s_snoc,List.take_succ_eq_append_getElem (by rw[len_of_size];exact hlt)]
    simp[Lz.low]
    rfl
   have Hst:=Ih hst;clear hst hown;by_cases hup:65<=(s[k].toNat:Int)/\(s[k].toNat:Int)<=90
   ·rw[if_pos hup]at hl;obtain⟨h1,h2⟩:=hup;have Hl:=Ih hl;clear hl
    go_wp2_with (at_builtin;refine wpList_append_own _ rfl (.tmp 23) (.tmp 25) 35 rfl w.heap.size 5 i0 (.int .u8 0) 1 1 Tryz.underlying35 hi hz0 hz1 hz2 rfl (by decide) _ _ _ rfl (Hown.out.alloc _) ⟨wr.heap.size,0,none⟩ 1 1 [.int .u8 ((s[k].toNat:Int)+32)] rfl rfl (cell_one _ _ _) (by simp[Value.oneCell']) (by unfold maxLen;omega) (by omega) (by simp;omega) ?_)
    intro v' w1 hown' hgrow _;have hb1:=Below.grown1 hb Hown.out hgrow hsz (Nat.le_refl _);rw[<-Hl.out,Hst.out]at hown';have Hown1:=Ih hown';clear hown' hgrow Hst Hl hb
    go_wp2
    go_roundw
    case rel=>exact⟨k+1,by omega,by go_num,Hown1.out,hb1⟩
    case measure=>simp[intOf];omega
   ·rw[if_neg hup]at hl;have hcase:(s[k].toNat:Int)<65\/(65<=(s[k].toNat:Int)/\90<(s[k].toNat:Int)):=by omega
    have Hl:=Ih hl;clear hl hup;rcases hcase with h1|⟨h1,h2⟩
    all_goals
     go_wp2_with (at_builtin;refine wpList_append_own _ rfl (.tmp 23) (.tmp 25) 35 rfl w.heap.size 5 i0 (.int .u8 0) 1 1 Tryz.underlying35 hi hz0 hz1 hz2 rfl (by decide) _ _ _ rfl (Hown.out.alloc _) ⟨wr.heap.size,0,none⟩ 1 1 [.int .u8 (s[k].toNat:Int)] rfl rfl (cell_one _ _ _) (by simp[Value.oneCell']) (by unfold maxLen;omega) (by omega) (by simp;omega) ?_)
     intro v' w1 hown' hgrow _;have hb1:=Below.grown1 hb Hown.out hgrow hsz (Nat.le_refl _);rw[<-Hl.out,Hst.out]at hown';have Hown1:=Ih hown';clear hown' hgrow Hst Hl hb
     go_wp2
     go_roundw
     case rel=>exact⟨k+1,by omega,by go_num,Hown1.out,hb1⟩
     case measure=>simp[intOf];omega
  ·have hcv:=conv_own hown;rw[List.take_of_length_le (by rw[len_of_size];omega)]at hcv;clear hown Hown
   go_wp2
   go_ret;exact⟨rfl,hb⟩
theorem Lower02_c (s:ByteArray) (hs:s.size<=140737488355328) (w:World):Calls Tryz.prog 30 #[.string s] w fun e w'=>∃u:ByteArray,e=.returned (.string u)/\Hid (u.data.toList=Lz.low s.data.toList)/\Below w.heap.size w w':=
 (Lower02_any s hs w).mono fun _ _ ⟨he,hb⟩=>⟨_,he,rfl,hb⟩
theorem bytes_beq (u s:ByteArray):(u.toList==s.toList)=(u.data.toList==s.data.toList):=by rw[Lib.toList_data,Lib.toList_data]
theorem IP_any (s:ByteArray) (hs:s.size<=900000) (w:World) (hE:EnvH w):Calls Tryz.prog 169 #[.string s] w (RBool (Lz.ipP s.data.toList) w):=by
 have cH:=ParseH_any s true hs (fun h=>by cases h) w hE
 have hip:Lz.ipP s.data.toList=match Lz.hostPr s.data.toList true with
  | .ok h=>h==s.data.toList&&(s.data.toList[0]? ==some 91||Lz.numberedP s.data.toList)
  | .er _=>false:=rfl
 have hne:=fun h=>Lz.host_again_true (s:=s.data.toList) (h:=h);have her:=fun n=>Lz.host_err_true s.data.toList n;generalize Lz.hostPr s.data.toList true=r at cH hip hne her;have CH:=Ih cH;have Hip:=Ih hip;have Hne:=Ih hne;have Her:=Ih her;clear cH hip hne her;cases r with
 | er n=>
   have hn:(((resE (.er n):Nat):Int)==0)=false:=by
    have:=Her.out n rfl
    apply beq_eq_false_iff_ne.2
    show(n:Int)≠0;omega
   have HN:Hid (Lz.ipP s.data.toList=false):=by show _=_;rw[Hip.out]
   go_enter Tryz.func169,Tryz.ntmps169
   go_wp2_with fail
   refine(CH.out).mono ?_;rintro e w1 ⟨u,rfl,hu,hb1⟩
   go_wp2
   go_ret;rw[HN.out];exact⟨rfl,hb1⟩
 | ok h=>
   by_cases hh:h=s.data.toList
   ·have hpos:0<s.size:=by
     have:=(Hne.out h rfl).2.2;rw[<-len_of_size,<-hh];exact List.length_pos_iff.2 this
    have hg:=get_of_lt hpos
    have HQ:Hid (Lz.ipP s.data.toList=(decide (s[0]=91)||Lz.numberedP s.data.toList)):=by
     show _=_;rw[Hip.out,hg];simp only[hh,beq_self_eq_true,Bool.true_and];congr 1
    have cN:=fun W hW=>numbered_any s (by omega) W hW;generalize Lz.numberedP s.data.toList=nb at cN HQ;have CN:=Ih cN;have Hh:=Ih hh;clear cN hg hh Hip;by_cases h9:s[0]=91
    ·have h9b:((s[0].toNat:Int)==91)=true:=by rw[h9];rfl
     have HN:Hid (Lz.ipP s.data.toList=true):=by show _=_;rw[HQ.out,decide_eq_true h9];rfl
     clear h9;go_enter Tryz.func169,Tryz.ntmps169
     go_wp2_with fail
     refine(CH.out).mono ?_;rintro e w1 ⟨u,rfl,hu,hb1⟩;have hus:(u.toList==s.toList)=true:=by rw[bytes_beq,hu.out,show resT (.ok h)=h from rfl,Hh.out];simp
     go_wp2
     go_ret;rw[HN.out];exact⟨rfl,hb1⟩
    ·have h9b:((s[0].toNat:Int)==91)=false:=(beqI s[0] 91).trans (beq_eq_false_iff_ne.2 h9);have HN:Hid (Lz.ipP s.data.toList=nb):=by show _=_;rw[HQ.out,decide_eq_false h9];rfl
     clear h9;go_enter Tryz.func169,Tryz.ntmps169
     go_wp2_with fail
     refine(CH.out).mono ?_;rintro e w1 ⟨u,rfl,hu,hb1⟩;have hus:(u.toList==s.toList)=true:=by rw[bytes_beq,hu.out,show resT (.ok h)=h from rfl,Hh.out];simp
     go_wp2_with fail
     refine(CN.out _ (hE.below hb1)).mono ?_;rintro e w2 ⟨rfl,hb2⟩
     go_wp2
     go_ret;rw[HN.out];exact⟨rfl,below_call hb1 hb2⟩
   ·have HN:Hid (Lz.ipP s.data.toList=false):=by
     show _=_;rw[Hip.out];have:(h==s.data.toList)=false:=beq_eq_false_iff_ne.2 hh;show(h==s.data.toList&&_)=false;rw[this,Bool.false_and]
    have Hh:=Ih hh;clear hh;go_enter Tryz.func169,Tryz.ntmps169
    go_wp2_with fail
    refine(CH.out).mono ?_;rintro e w1 ⟨u,rfl,hu,hb1⟩;have hus:(u.toList==s.toList)=false:=by rw[bytes_beq,hu.out,show resT (.ok h)=h from rfl];exact beq_eq_false_iff_ne.2 Hh.out
    go_wp2
    go_ret;rw[HN.out];exact⟨rfl,hb1⟩
end Go.Proofs.YtfepgodjaeddgaaGreatDoor
namespace Go.Proofs.YtfepgodjaeddgaaGreatDoor
open Go.ChangeShapes Go.WideShapes Go.ChangeAt Go.RowKit
theorem laidOut:laidOutB Tryz.prog=true:=by kernel_rfl
theorem cellsU8:Tryz.prog.cellsOf 5=1:=by kernel_rfl
theorem trodAll_below {H:Type} {enc:TypeId×Value->H} {W W':World} (hb:Below W.heap.size W W'):∀{ts:List TypeId} {vs:List Value} {ds:List (DataW H)} {ps:List MemPlace},
  (∀t∈ts,Tryz.prog.readableRec t=true/\t<Tryz.prog.types.size)->DataW.TrodAll enc Tryz.prog W 0 (fun _=>true) true ts vs ds ps->(∀x∈ps,x.block<W.heap.size)->
  DataW.TrodAll enc Tryz.prog W' 0 (fun b=>decide (b<W.heap.size)) true ts vs ds ps
 | [],[],[],_,_,h,_=>h
 | t::ts,v::vs,d::ds,ps,ht,⟨p,q,h1,h2,e⟩,hlt=>
   ⟨p,q,Below.trod laidOut (ht t (by simp)).1 (ht t (by simp)).2 h1 hb (fun x hx=>hlt x (by rw[e];exact List.mem_append_left _ hx)),
    trodAll_below hb (fun t' h'=>ht t' (by simp[h'])) h2 (fun x hx=>hlt x (by rw[e];exact List.mem_append_right _ hx)),e⟩
 | [],_::_,_,_,_,h,_=>by simp[DataW.TrodAll]at h
 | [],[],_::_,_,_,h,_=>by simp[DataW.TrodAll]at h
 | _::_,[],_,_,_,h,_=>by simp[DataW.TrodAll]at h
 | _::_,_::_,[],_,_,h,_=>by simp[DataW.TrodAll]at h
theorem byte_of_wf {n:Int} (h:(Lit.int .u8 n).wf=true):0<=n/\n<=255:=by
 simp only[Lit.wf,Bool.and_eq_true,decide_eq_true_eq]at h;have h0:IntKind.u8.min=0:=by decide
 have h1:IntKind.u8.max=255:=by decide
 rw[h0,h1]at h;exact h
theorem slB_cell {H:Type} {enc:TypeId×Value->H} {W:World} {base:Nat} {sp:Nat->Bool} {hd:Bool} {v:Value} {x:DataW H×List MemPlace} {fuel:Nat}
  (hf:DataW.trod enc Tryz.prog W base sp hd fuel 35 [v]=some x):∃l,SlB W v l:=by
 rcases open_ints Tryz.underlying35 Tryz.underlying5 cellsU8 hf with⟨hcs,hx⟩|⟨a,len',cap',zs,hcs,_,hl,hm,hz,hx,hcell,hwz⟩
 ·obtain rfl:=List.singleton_inj.1 hcs;exact⟨[],none,0,rfl,by simp,fun j b hj=>by simp at hj⟩
 ·obtain rfl:=List.singleton_inj.1 hcs;have hzl:len'<=zs.length:=by rw[hz];split<;>omega
  have hm':cap'<=9223372036854775807:=hm;have hlen:((zs.take len').map (fun z=>UInt8.ofNat z.toNat)).length=len':=by simp;omega
  refine⟨(zs.take len').map (fun z=>UInt8.ofNat z.toNat),some a,cap',by rw[hlen],by rw[hlen];omega,fun j b hj=>?_⟩
  have hjl:j<len':=by
   have:=(List.getElem?_eq_some_iff.1 hj).1;rw[hlen]at this;exact this
  obtain⟨B,off,rfl,hc⟩:=ints_at hcell (by omega);have h1:=hc j (by omega);refine⟨B,off,rfl,World.block_lt_of_cell? _ _ h1,?_⟩;rw[h1]
  have hzj:zs[j]? =some (zs.getD j 0):=by
   rw[List.getD_eq_getElem?_getD,List.getElem?_eq_getElem (by omega)];rfl
  have hb:b=UInt8.ofNat (zs.getD j 0).toNat:=by
   rw[List.getElem?_map,List.getElem?_take,if_pos hjl,hzj]at hj;exact(Option.some.inj hj).symm
  obtain⟨w0,w1⟩:=byte_of_wf (hwz _ (List.mem_of_getElem? hzj));rw[hb,UInt8.toNat_ofNat'];congr 2;omega
theorem slB_of {H:Type} {enc:TypeId×Value->H} {W:World} {base:Nat} {sp:Nat->Bool} {hd:Bool} {v:Value} {d:DataW H} {ps:List MemPlace} {r:Reach} {b0:Nat}
  (hv:Value.okWide Tryz.prog W r b0 35 v) (h:DataW.Trod enc Tryz.prog W base sp hd 35 v d ps):∃l,SlB W v l:=by
 obtain⟨a0,len,cap,rfl⟩:=okWide_slice Tryz.underlying35 hv;obtain⟨fuel,hf⟩:=h;exact slB_cell hf
end Go.Proofs.YtfepgodjaeddgaaGreatDoor
namespace Lz
open Go
theorem parse_read {s:Bs} {b:Option UrlL} {u:UrlL} (e:parseU s b=.ok u):s.length<=4000/\readU s b=.ok u:=by
 unfold parseU at e;split at e
 ·cases e
 ·refine⟨by omega,?_⟩;cases b with
  | none=>exact e
  | some x=>
    simp only at e;split at e
    ·exact e
    ·cases e
theorem parse_wq0 {s:Bs} {u:UrlL} (e:parseU s none=.ok u):wq u<=12120:=by
 obtain⟨h1,h2⟩:=parse_read e;have h3:=readU_len h2 (fun _ h=>by cases h);have h4:bq none=0:=rfl;omega
theorem parse_wq {s:Bs} {b:Option UrlL} {u:UrlL} (e:parseU s b=.ok u) (hb:∀x,b=some x->∃t,parseU t none=.ok x):wq u<=24240:=by
 cases b with
 | none=>have:=parse_wq0 e;omega
 | some x=>
   obtain⟨t,ht⟩:=hb x rfl;obtain⟨h1,h2⟩:=parse_read e;have h3:=readU_len h2 (fun y h=>by cases h;exact parse_form ht);have h4:bq (some x)=wq x:=rfl;have h5:=parse_wq0 ht;omega
theorem parse_err {s:Bs} {b:Option UrlL} {n:Nat} (e:parseU s b=.er n):n=3\/n=2\/n=70\/n=71\/n=72\/n=81\/n=82:=by
 unfold parseU at e;split at e
 ·injection e with e;omega
 ·cases b with
  | none=>have:=readU_err e;omega
  | some x=>
    simp only at e;split at e
    ·have:=readU_err e;omega
    ·injection e with e;omega
end Lz
namespace Go.Proofs.YtfepgodjaeddgaaGreatDoor
open Go.RowKit
attribute [local go_sem ↓] Go.wp_at_zero Go.wp_at_succ
theorem SameA_any (s t:ByteArray) (hs:s.size<=140737488355328) (w:World):Calls Tryz.prog 29 #[.string s,.string t] w (RBool (decide (Lz.low s.data.toList=Lz.low t.data.toList)) w):=by
 obtain⟨q,hq⟩:∃q,q=decide (Lz.low s.data.toList=Lz.low t.data.toList):=⟨_,rfl⟩;rw[<-hq];have Hq:=Ih hq;clear hq;by_cases hl:s.size=t.size
 ·have hlI:((s.size:Int) != (t.size:Int))=false:=by rw[hl];simp
  have Hl:=Ih hl;clear hl;go_enter Tryz.func29,Tryz.ntmps29
  go_wp2_with fail
  go_loopw [13] (fun k wr=>∃i:Nat,k=.int .i64 i/\i<=s.size/\Hid ((Lz.low s.data.toList).take i=(Lz.low t.data.toList).take i)/\Below w.heap.size w wr) (fun k _=>s.size-(intOf k).toNat)
  case atStart=>exact⟨0,rfl,Nat.zero_le _,Ih (by simp),Below.refl _ _⟩
  case round=>
   obtain⟨i,rfl,hi,hT,hbw⟩:=hrel;by_cases hlt:i<s.size
   ·have hltI:(i:Int)<(s.size:Int):=by omega
    have hlt2:i<t.size:=by rw[<-Hl.out];exact hlt
    have hltI2:(i:Int)<(t.size:Int):=by omega
    have hi0:(0:Int)<=(i:Int):=by omega
    obtain⟨a,ha⟩:∃a,a=s[i]:=⟨_,rfl⟩;obtain⟨b,hb⟩:∃b,b=t[i]:=⟨_,rfl⟩;have haI:(s[i].toNat:Int)=(a.toNat:Int):=by rw[ha]
    have hbI:(t[i].toNat:Int)=(b.toNat:Int):=by rw[hb]
    have hstep:(Lz.low s.data.toList).take (i+1)=(Lz.low s.data.toList).take i++[Lz.low1 a]/\(Lz.low t.data.toList).take (i+1)=(Lz.low t.data.toList).take i++[Lz.low1 b]:=by
     constructor
     ·rw[List.take_add_one,show(Lz.low s.data.toList)[i]? =some (Lz.low1 a) by unfold Lz.low;rw[List.getElem?_map,get_of_lt hlt,ha];rfl];rfl
     ·rw[List.take_add_one,show(Lz.low t.data.toList)[i]? =some (Lz.low1 b) by unfold Lz.low;rw[List.getElem?_map,get_of_lt hlt2,hb];rfl];rfl
    have c1:=fun W=>lower_any a W;have c2:=fun W=>lower_any b W;have C1:Hid (∀W,Calls Tryz.prog 52 #[.int .u8 a.toNat] W fun e w'=>e=.returned (.int .u8 (Lz.low1 a).toNat)/\w'=W):=Ih (fun W=>(c1 W).mono fun _ _ ⟨h1,h2⟩=>⟨h1,h2.symm⟩);have C2:Hid (∀W,Calls Tryz.prog 52 #[.int .u8 b.toNat] W fun e w'=>e=.returned (.int .u8 (Lz.low1 b).toNat)/\w'=W):=Ih (fun W=>(c2 W).mono fun _ _ ⟨h1,h2⟩=>⟨h1,h2.symm⟩);have hbe:(((Lz.low1 a).toNat:Int) != ((Lz.low1 b).toNat:Int))= !(Lz.low1 a==Lz.low1 b):=by rw[bne,beqU]
    clear ha hb c1 c2;by_cases he:Lz.low1 a=Lz.low1 b
    ·rw[beq_iff_eq.2 he]at hbe;have hbe2:(((Lz.low1 a).toNat:Int) != ((Lz.low1 b).toNat:Int))=false:=hbe;have hT2:Hid ((Lz.low s.data.toList).take (i+1)=(Lz.low t.data.toList).take (i+1)):=by show _=_;rw[hstep.1,hstep.2,hT.out,he]
     clear he hstep hT hbe
     go_wp2_with fail
     go_quiet (first |(go_at_call_of 52 (Value.int .u8 (a.toNat:Int));exact Calls.quiet_of_same (C1.out _))|(go_at_call_of 52 (Value.int .u8 (b.toNat:Int));exact Calls.quiet_of_same (C2.out _)))
     have hbq:Below w.heap.size w (wr.drewN nq):=below_drewN hbw nq;generalize wr.drewN nq=wq at hbq⊢
     go_wp2_with fail
     go_roundw
     case rel=>exact⟨i+1,by go_num,by omega,hT2,hbq⟩
     case measure=>simp[intOf];omega
    ·rw[beq_eq_false_iff_ne.2 he]at hbe;have hbe2:(((Lz.low1 a).toNat:Int) != ((Lz.low1 b).toNat:Int))=true:=hbe
     have HQ:Hid (q=false):=by
      show _=_;rw[Hq.out];refine decide_eq_false fun e=>he ?_;have h1:=congrArg (List.take (i+1)) e;rw[hstep.1,hstep.2,hT.out]at h1;simpa using List.append_cancel_left h1
     clear he hstep hT hbe
     go_wp2_with fail
     go_quiet (first |(go_at_call_of 52 (Value.int .u8 (a.toNat:Int));exact Calls.quiet_of_same (C1.out _))|(go_at_call_of 52 (Value.int .u8 (b.toNat:Int));exact Calls.quiet_of_same (C2.out _)))
     have hbq:Below w.heap.size w (wr.drewN nq):=below_drewN hbw nq;generalize wr.drewN nq=wq at hbq⊢
     go_wp2_with fail
     go_ret;exact⟨by rw[HQ.out];rfl,hbq⟩
   ·have hltI:¬(i:Int)<(s.size:Int):=by omega
    have HQ:Hid (q=true):=by
     show _=_;rw[Hq.out];refine decide_eq_true ?_;have h1:=hT.out;rw[List.take_of_length_le (by rw[low_length,len_of_size];omega),List.take_of_length_le (by rw[low_length,len_of_size];have:=Hl.out;omega)]at h1;exact h1
    clear hT
    go_wp2_with fail
    go_ret;exact⟨by rw[HQ.out];rfl,hbw⟩
 ·have hlI:((s.size:Int) != (t.size:Int))=true:=by simp;omega
  have HQ:Hid (q=false):=by
   show _=_;rw[Hq.out];refine decide_eq_false fun e=>hl ?_;have:=congrArg List.length e;rw[low_length,low_length,len_of_size,len_of_size]at this;exact this
  clear hl;go_enter Tryz.func29,Tryz.ntmps29
  go_wp2_with fail
  go_ret;exact⟨by rw[HQ.out];rfl,Below.refl _ _⟩
theorem NoneM_any (v:Value) (l:List (List UInt8)) (w:World) (h:PathAt w v l) (hL:l.length<=1000000) (hZ:∀x,x∈l->x.length<=140737488355328):Calls Tryz.prog 13 #[v] w (RBool (Lz.noneM l) w):=by
 obtain⟨a,c,xs,rfl,rfl,hx⟩:=h
 match xs,hx,hZ,hL with
 | [],_,_,_=>
   have HV:Hid (Lz.noneM (([]:List ByteArray).map fun x:ByteArray=>x.data.toList)=true):=rfl;go_enter Tryz.func13,Tryz.ntmps13
   go_wp2_with fail
   go_ret;exact⟨by rw[HV.out];rfl,Below.refl _ _⟩
 | [x],hx,hZ,_=>
   obtain⟨B,off,rfl,hB,hc⟩:=hx 0 x rfl;rw[Nat.add_zero]at hc;have hxz:x.size<=140737488355328:=by rw[<-len_of_size];exact hZ _ (by simp)
   obtain⟨q,hq⟩:∃q,q=decide (Lz.low x.data.toList=Lz.noneS):=⟨_,rfl⟩
   have HV:Hid (Lz.noneM ([x].map fun x:ByteArray=>x.data.toList)=q):=by
    show _=_;rw[hq];show(false||(true&&(Lz.low x.data.toList==Lz.noneS)))=_;rw[Bool.false_or,Bool.true_and,Bool.eq_iff_iff];simp
   have cS:Hid (Calls Tryz.prog 29 #[.string x,.string ⟨#[39,110,111,110,101,39]⟩] w (RBool q w)):=Ih (by
    have:=SameA_any x ⟨#[39,110,111,110,101,39]⟩ hxz w;rw[show Lz.low (⟨#[39,110,111,110,101,39]⟩:ByteArray).data.toList=Lz.noneS by decide,<-hq]at this;exact this)
   clear hx hq hZ;go_enter Tryz.func13,Tryz.ntmps13
   go_wp2_with fail
   refine cS.out.mono ?_;rintro e w5 ⟨rfl,hb5⟩
   go_wp2_with fail
   go_ret;exact⟨by rw[HV.out];rfl,hb5⟩
 | x::y::r,hx,_,hL=>
   have HV:Hid (Lz.noneM ((x::y::r).map fun x:ByteArray=>x.data.toList)=false):=rfl;obtain⟨n,hn⟩:∃n,n=(x::y::r).length:=⟨_,rfl⟩;have hn2:2<=n:=by rw[hn,List.length_cons,List.length_cons];omega
   have e0:((n:Int)==0)=false:=beq_eq_false_iff_ne.2 (by omega);have e1:((n:Int)==1)=false:=beq_eq_false_iff_ne.2 (by omega);rw[<-hn];clear hx hn hL;go_enter Tryz.func13,Tryz.ntmps13
   go_wp2_with fail
   go_ret;exact⟨by rw[HV.out];rfl,Below.refl _ _⟩
end Go.Proofs.YtfepgodjaeddgaaGreatDoor
namespace Lz
open Go
def schemeQ (b0 p1 u1 u2 u3 p2 p3:Bool):Bool:=if b0 then true else if p1 then u1||(u2||u3)else(p2||p3)&&u3
theorem schemeQ_eq (p u:Bs):schemeQ (p==u) (p==wsS) (u==wssS) (u==httpS) (u==httpsS) (p==httpS) (p==wssS)=schemeM p u:=by
 unfold schemeQ schemeM betterP;by_cases h0:p=u
 ·rw[beq_iff_eq.2 h0];rfl
 ·rw[beq_eq_false_iff_ne.2 h0];by_cases h1:p=wsS
  ·subst h1;rw[beq_self_eq_true,if_neg (by decide),if_pos rfl,if_neg (by decide),if_pos rfl];rw[Bool.false_or,Bool.eq_iff_iff]
   simp
  ·rw[beq_eq_false_iff_ne.2 h1,if_neg (by decide),if_neg (by decide),if_neg h1];by_cases h2:p=httpS
   ·subst h2;rw[beq_self_eq_true,if_pos rfl,Bool.eq_iff_iff];simp
   ·rw[beq_eq_false_iff_ne.2 h2,if_neg h2];by_cases h3:p=wssS
    ·subst h3;rw[beq_self_eq_true,if_pos rfl,Bool.eq_iff_iff];simp
    ·rw[beq_eq_false_iff_ne.2 h3,if_neg h3];simp
end Lz
namespace Go.Proofs.YtfepgodjaeddgaaGreatDoor
open Go.RowKit
attribute [local go_sem ↓] Go.wp_at_zero Go.wp_at_succ
theorem lit_beq (s:ByteArray) (k:List UInt8):(s.toList==k)=(s.data.toList==k):=by rw[Lib.toList_data]
theorem Scheme26_any (p u:ByteArray) (w:World):Calls Tryz.prog 10 #[.string p,.string u] w (RBool (Lz.schemeM p.data.toList u.data.toList) w):=by
 obtain⟨R,hR⟩:∃R,R=Lz.schemeM p.data.toList u.data.toList:=⟨_,rfl⟩;rw[<-hR];rw[<-Lz.schemeQ_eq]at hR;obtain⟨b0,h0⟩:∃b,(p.toList==u.toList)=b:=⟨_,rfl⟩;obtain⟨p1,h1⟩:∃b,(p.toList==[119,115])=b:=⟨_,rfl⟩;obtain⟨u1,h2⟩:∃b,(u.toList==[119,115,115])=b:=⟨_,rfl⟩;obtain⟨u2,h3⟩:∃b,(u.toList==[104,116,116,112])=b:=⟨_,rfl⟩;obtain⟨u3,h4⟩:∃b,(u.toList==[104,116,116,112,115])=b:=⟨_,rfl⟩;obtain⟨p2,h5⟩:∃b,(p.toList==[104,116,116,112])=b:=⟨_,rfl⟩;obtain⟨p3,h6⟩:∃b,(p.toList==[119,115,115])=b:=⟨_,rfl⟩
 have HR:Hid (R=Lz.schemeQ b0 p1 u1 u2 u3 p2 p3):=by
  show _=_;rw[hR,<-h0,<-h1,<-h2,<-h3,<-h4,<-h5,<-h6];simp only[Lib.toList_data];rfl
 clear hR;cases b0 with
 | true=>
   go_enter Tryz.func10,Tryz.ntmps10
   go_wp2_with fail
   go_ret;exact⟨by rw[HR.out];rfl,Below.refl _ _⟩
 | false=>
   cases p1 with
   | true=>
     cases u1<;>cases u2<;>
     ·go_enter Tryz.func10,Tryz.ntmps10
      go_wp2_with fail
      go_ret;exact⟨by rw[HR.out];rfl,Below.refl _ _⟩
   | false=>
     cases p2<;>cases p3<;>
     ·go_enter Tryz.func10,Tryz.ntmps10
      go_wp2_with fail
      go_ret;exact⟨by rw[HR.out];rfl,Below.refl _ _⟩
theorem None26_any (v:Value) (l:List (List UInt8)) (w:World) (h:PathAt w v l) (hZ:∀x,x∈l->x.length<=140737488355328):Calls Tryz.prog 14 #[v] w (RBool (Lz.noneM l) w):=by
 obtain⟨a,c,xs,rfl,rfl,hx⟩:=h
 match xs,hx,hZ with
 | [],_,_=>
   have HV:Hid (Lz.noneM (([]:List ByteArray).map fun x:ByteArray=>x.data.toList)=true):=rfl;go_enter Tryz.func14,Tryz.ntmps14
   go_wp2_with fail
   go_ret;exact⟨by rw[HV.out];rfl,Below.refl _ _⟩
 | [x],hx,hZ=>
   obtain⟨B,off,rfl,hB,hc⟩:=hx 0 x rfl;rw[Nat.add_zero]at hc;have hxz:x.size<=140737488355328:=by rw[<-len_of_size];exact hZ _ (by simp)
   have cS:=Ih (Lower02_c x (by omega) w)
   have HV:Hid (∀t:ByteArray,t.data.toList=Lz.low x.data.toList->Lz.noneM ([x].map fun x:ByteArray=>x.data.toList)=(t.toList==[39,110,111,110,101,39])):=Ih (fun t ht=>by
    rw[lit_beq,ht];show(false||(true&&(Lz.low x.data.toList==Lz.noneS)))=_;rw[Bool.false_or,Bool.true_and];rfl)
   clear hx hZ;go_enter Tryz.func14,Tryz.ntmps14
   go_wp2_with fail
   refine cS.out.mono ?_;rintro e w5 ⟨t,rfl,ht,hb5⟩;have HQ:=Ih (HV.out t ht.out)
   go_wp2_with fail
   go_ret;exact⟨by rw[HQ.out];rfl,hb5⟩
 | x::y::r,hx,_=>
   have HV:Hid (Lz.noneM ((x::y::r).map fun x:ByteArray=>x.data.toList)=false):=rfl;obtain⟨n,hn⟩:∃n,n=(x::y::r).length:=⟨_,rfl⟩;have hn2:2<=n:=by rw[hn,List.length_cons,List.length_cons];omega
   have e0:((n:Int)==0)=false:=beq_eq_false_iff_ne.2 (by omega);have e1:((n:Int)==1)=false:=beq_eq_false_iff_ne.2 (by omega);rw[<-hn];clear hx hn;go_enter Tryz.func14,Tryz.ntmps14
   go_wp2_with fail
   go_ret;exact⟨by rw[HV.out];rfl,Below.refl _ _⟩
end Go.Proofs.YtfepgodjaeddgaaGreatDoor
namespace Lz
open Go
theorem asked0:askedM [104,116,116,112,115,58,47,47,97,46,98,47,120] [39,115,101,108,102,39]=true:=by decide +kernel
theorem asked1:askedM [104,116,116,112,58,47,47,97,46,98,47,120] [39,115,101,108,102,39]=false:=by decide +kernel
theorem asked2:askedM [104,116,116,112,115,58,47,47,97,46,98,58,52,52,52,47] [39,115,101,108,102,39]=false:=by decide +kernel
theorem asked3:askedM [104,116,116,112,115,58,47,47,99,46,97,46,98,47] [42,46,97,46,98]=true:=by decide +kernel
theorem asked4:askedM [104,116,116,112,115,58,47,47,97,46,98,47] [42,46,97,46,98]=false:=by decide +kernel
theorem asked5:askedM [104,116,116,112,58,47,47,120,47] [42]=true:=by decide +kernel
theorem asked6:askedM [100,97,116,97,58,49] [42]=false:=by decide +kernel
theorem asked7:askedM [104,116,116,112,115,58,47,47,120,47,112,47,113] [120,47,112,47]=true:=by decide +kernel
theorem asked8:askedM [104,116,116,112,115,58,47,47,120,47,112] [120,47,112,47]=false:=by decide +kernel
theorem asked9:askedM [104,116,116,112,115,58,47,47,49,50,55,46,48,46,48,46,49,47] [49,50,55,46,48,46,48,46,49]=true:=by decide +kernel
theorem asked10:askedM [104,116,116,112,115,58,47,47,49,50,55,46,48,46,48,46,50,47] [49,50,55,46,48,46,48,46,50]=false:=by decide +kernel
theorem listS_app (a b:List Bs):listS (a++b)=listS a++listS b:=by unfold listS;rw[List.filterMap_append]
theorem one_red {u:UrlL} {x:Src} {own:UrlL} (h:oneM u x own false=true):oneM u x own true=true:=by
 unfold oneM at h⊢;split
 ·rename_i h1;rw[if_pos h1]at h;exact h
 ·rename_i h1;rw[if_neg h1]at h;split
  ·rename_i h2;rw[if_pos h2]at h;exact h
  ·rename_i h2;rw[if_neg h2]at h;split
   ·rename_i h3;rw[if_pos h3]at h;split
    ·rename_i h4;rw[if_pos h4]at h;exact h
    ·rename_i h4;rw[if_neg h4]at h;unfold hostedM at h⊢;simp only[Bool.and_eq_true,Bool.or_eq_true]at h⊢;exact⟨h.1,h.2.1,h.2.2.1,h.2.2.2.1,h.2.2.2.2.1,Or.inl trivial⟩
   ·rename_i h3;rw[if_neg h3]at h;cases h
theorem any_red {u:UrlL} {l:List Bs} {own:UrlL} (h:anyM u l own false=true):anyM u l own true=true:=by
 unfold anyM at h⊢;rw[Bool.and_eq_true]at h⊢;refine⟨h.1,?_⟩;obtain⟨x,hx,h1⟩:=List.any_eq_true.1 h.2;exact List.any_eq_true.2 ⟨x,hx,one_red h1⟩
theorem any_more {u:UrlL} {l:List Bs} {m:Bs} {own:UrlL} {r:Bool} (h:anyM u l own r=true):anyM u (l++[m]) own r=true:=by
 unfold anyM at h⊢;rw[Bool.and_eq_true]at h⊢;refine⟨?_,?_⟩
 ·have h1:=h.1;cases l with
  | nil=>cases h1
  | cons a r=>simp[noneM]
 ·obtain⟨x,hx,h1⟩:=List.any_eq_true.1 h.2;exact List.any_eq_true.2 ⟨x,by rw[listS_app];exact List.mem_append_left _ hx,h1⟩
theorem more_says (u own:UrlL) (l:List Bs) (m:Bs):(!anyM u l own false||(anyM u (l++[m]) own false&&anyM u l own true))=true:=by
 cases h:anyM u l own false with
 | false=>rfl
 | true=>rw[any_more h,any_red h];rfl
def letU (b:UInt8):UInt8:=97+b%26
def eqTo (n:Nat) (a b:List Bs):Bool:=decide ((a.take n).map decodeP=(b.take n).map decodeP)
theorem eqTo_step {a b:List Bs} {j:Nat} {x y:Bs} (hx:a[j]? =some x) (hy:b[j]? =some y):eqTo (j+1) a b=(eqTo j a b&&decide (decodeP x=decodeP y)):=by
 unfold eqTo;rw[List.take_add_one,List.take_add_one,hx,hy,List.map_append,List.map_append,<-Bool.decide_and]
 have hl:((a.take j).map decodeP).length=((b.take j).map decodeP).length:=by
  have h1:=(List.getElem?_eq_some_iff.1 hx).1;have h2:=(List.getElem?_eq_some_iff.1 hy).1
  simp;omega
 refine decide_eq_decide.2 ⟨fun h=>?_,fun⟨h1,h2⟩=>by rw[h1];simp[h2]⟩;have:=List.append_inj h hl;exact⟨this.1,by simpa using this.2⟩
theorem eqTo_le {a b:List Bs} {j k:Nat} (h:eqTo k a b=true) (hj:j<=k):eqTo j a b=true:=by
 unfold eqTo at h⊢;have h:=congrArg (List.take j) (of_decide_eq_true h);rw[List.map_take,List.map_take,List.take_take,List.take_take,Nat.min_eq_left hj,<-List.map_take,<-List.map_take]at h;exact decide_eq_true h
def pathR (p u:Bs):Bool:=
 if p=[]\/(p=[47]/\u=[])then true
 else if(splitC 47 u).length<(splitC 47 p).length then false
 else if p.getLast? =some 47 then eqTo ((splitC 47 p).length-1) (splitC 47 p) (splitC 47 u)
 else if(splitC 47 p).length≠(splitC 47 u).length then false
 else eqTo (splitC 47 u).length (splitC 47 p) (splitC 47 u)
theorem suffix_last (l:Bs) (c:UInt8):Lib.hasSuffix l [c]=decide (l.getLast? =some c):=by
 rcases List.eq_nil_or_concat l with rfl|⟨a,b,rfl⟩
 ·rfl
 ·unfold Lib.hasSuffix;show([c]:Bs).reverse.isPrefixOf (a.concat b).reverse=_;rw[List.concat_eq_append,List.reverse_append,List.getLast?_concat];show(c==b&&true)=_;by_cases h:c=b
  ·subst h;simp
  ·rw[beq_eq_false_iff_ne.2 h,decide_eq_false (fun e=>h (Option.some.inj e).symm)];rfl
theorem pathR_eq (p u:Bs):pathR p u=pathM p u:=by
 unfold pathR pathM;split
 ·rfl
 ·rw[suffix_last];by_cases hl:(splitC 47 u).length<(splitC 47 p).length
  ·rw[if_pos hl,if_neg (show ¬(_/\_)from fun h=>by have:=h.2;omega)]
   symm
   rw[beq_eq_false_iff_ne];intro h;have:=congrArg List.length h
   simp at this
   omega
  ·rw[if_neg hl];by_cases hs:p.getLast? =some 47
   ·rw[if_pos hs,if_pos ⟨decide_eq_true hs,by omega⟩];unfold eqTo;rw[List.dropLast_eq_take,Bool.eq_iff_iff]
    simp
   ·have hs':¬(decide (p.getLast? =some 47)=true/\(splitC 47 p).length<=(splitC 47 u).length):=fun h=>hs (of_decide_eq_true h.1);rw[if_neg hs,if_neg hs'];by_cases hn:(splitC 47 p).length=(splitC 47 u).length
    ·rw[if_neg (fun h=>h hn)];unfold eqTo;rw[List.take_of_length_le (by omega),List.take_of_length_le (by omega),Bool.eq_iff_iff]
     simp
    ·rw[if_pos hn]
     symm
     rw[beq_eq_false_iff_ne];intro h;have:=congrArg List.length h
     simp at this
     omega
end Lz
