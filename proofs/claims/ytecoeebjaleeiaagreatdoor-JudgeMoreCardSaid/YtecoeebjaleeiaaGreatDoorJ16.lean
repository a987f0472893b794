/-
  lazaretlaw31.Violations.
-/
import Derived.Test.YtecoeebjaleeiaaGreatDoorJ15
set_option maxHeartbeats 8000000
set_option maxRecDepth 100000
namespace Go.Proofs.YtecoeebjaleeiaaGreatDoor
open Go.RowKit
def lF:ak:=⟨3,⟨#[]⟩,0,⟨#[]⟩,⟨#[]⟩,false,-1,⟨#[]⟩⟩
def iK (w:World) (n:Nat) (SA:Bool) (v:Value):Prop:=(SA=true/\v=.nilIface)\/(SA=false/\gb w n v)
theorem gb.below' {w w':World} (hb:Below w.heap.size w w'):∀{n:Nat} {v:Value},gb w n v->gb w' n v
 | 0,_,h=>h
 | n+1,v,h=>by
   rcases h with h|⟨p,g,len,cap,v0,h1,h2,h3,h4,h5,h6,h7,h8⟩
   ·exact Or.inl (gb.below' hb h)
   ·exact Or.inr ⟨p,g,len,cap,v0,h1,Nat.lt_of_lt_of_le h2 hb.size,Nat.lt_of_lt_of_le h3 hb.size,by rw[hb.cell (p:=⟨p,0,none⟩) h2];exact h4,h5,h6,by rw[hb.cell (p:=⟨g,0,none⟩) h3];exact h7,gb.below' hb h8⟩
theorem iK.below {w w':World} {n:Nat} {g:Bool} {v:Value} (h:iK w n g v) (hb:Below w.heap.size w w'):iK w' n g v:=by
 rcases h with h|⟨h1,h2⟩
 ·exact Or.inl h
 ·exact Or.inr ⟨h1,h2.below' hb⟩
theorem iK.succ {w:World} {n:Nat} {g:Bool} {v:Value} (h:iK w n g v):iK w (n+1) g v:=by
 rcases h with h|⟨h1,h2⟩
 ·exact Or.inl h
 ·exact Or.inr ⟨h1,Or.inl h2⟩
theorem gb.iface' {w:World}:∀{n:Nat} {v:Value},gb w n v->∃t x,v=.iface t x
 | 0,_,⟨b,h⟩=>⟨_,_,h⟩
 | n+1,v,h=>by
   rcases h with h|⟨p,g,len,cap,v0,h1,_⟩
   ·exact gb.iface' h
   ·exact⟨_,_,h1⟩
theorem iK.form {w:World} {n:Nat} {g:Bool} {v:Value} (h:iK w n g v):v=.nilIface\/∃t x,v=.iface t x:=by
 rcases h with⟨_,h⟩|⟨_,h⟩
 ·exact Or.inl h
 ·exact Or.inr h.iface'
def RSt (n:Nat) (SA:Bool) (w:World) (e:Ending) (w':World):Prop:=∃v,e=.returned v/\Hid (iK w' n SA v)/\Below w.heap.size w w'
theorem wK {n:Nat} {v0:Value} {w:World} {e:Ending} {w':World} (h0:gb w n v0) (h:IQ v0 w e w'):RSt (n+1) false w e w':=by
 obtain⟨p,g,len,cap,he,q1,q2,q3,q4,q5,q6,hb⟩:=h;exact⟨_,he,Or.inr ⟨rfl,Or.inr ⟨p,g,len,cap,v0,rfl,q1,q2,q3,q4,q5,q6,h0.below' hb⟩⟩,hb⟩
theorem Je (g n:Nat) (g0 g1:Bool) (c0 c1:Value) (w:World) (s0:iK w n g0 c0) (s1:iK w n g1 c1) (h0:w.cell? ⟨g,0,none⟩=some c0) (h1:w.cell? ⟨g,1,none⟩=some c1):
  Calls Tryz.prog 218 #[.slice (some ⟨g,0,none⟩) 2 2] w (RSt (n+1) (g0&&g1) w):=by
 rcases s0 with⟨rfl,rfl⟩|⟨rfl,b0⟩
 ·rcases s1 with⟨rfl,rfl⟩|⟨rfl,b1⟩
  ·exact(Rl g w h0 h1).mono fun e w' ⟨he,hw⟩=>⟨_,he,Or.inl ⟨rfl,rfl⟩,by rw[hw];exact Below.refl _ _⟩
  ·obtain⟨t,x,rfl⟩:=b1.iface';exact(RU g t x w h0 h1).mono fun e w' h=>wK b1 h
 ·obtain⟨t,x,rfl⟩:=b0.iface';rcases s1 with⟨rfl,rfl⟩|⟨rfl,b1⟩
  ·exact(IZ g t x w h0 h1).mono fun e w' h=>wK b0 h
  ·obtain⟨t1,x1,rfl⟩:=b1.iface';exact(Jm g t x t1 x1 w h0 h1).mono fun e w' h=>wK b0 h
def A0 (o:Option ak) (x:ak) (n T:Nat) (w:World) (e:Ending) (w':World):Prop:=
 ∃v y,e=.returned v/\Hid (iK w' n o.isSome v)/\d9 w' T y/\Hid ((∀z,o=some z->z=y)/\y.path=x.path)/\Below T w w'
theorem Jr {o:Option ak} {x:ak} {n T:Nat} {w:World} {e:Ending} {w':World} (hp:∀z,o=some z->z.path=x.path) (h:Ou o x n T w e w'):A0 o x n T w e w':=by
 obtain⟨v,he,hv,hb⟩:=h;have hv:=hv.out;cases o with
 | none=>
   obtain⟨h1,h2⟩:=hv;exact⟨v,x,he,Or.inr ⟨rfl,h1⟩,h2,⟨fun z hz=>(by cases hz),rfl⟩,hb⟩
 | some y=>
   obtain⟨h1,h2⟩:=hv;exact⟨v,y,he,Or.inl ⟨rfl,h1⟩,h2,⟨fun z hz=>(Option.some.inj hz).symm,hp y rfl⟩,hb⟩
theorem GR {s:ByteArray} {x z:ak} (h:ix s x=some z):z.path=x.path:=by
 unfold ix at h;split at h
 ·rw[<-Option.some.inj h]
 ·split at h
  ·rw[<-Option.some.inj h]
  ·cases h
theorem G6 {s:ByteArray} {x z:ak} (h:gD s x=some z):z.path=x.path:=by
 unfold gD at h;obtain⟨n,_,hn⟩:=Option.map_eq_some_iff.1 h;rw[<-hn]
theorem R3 (s:ByteArray) (hs:s.size<=1048576) (T:Nat) (x:ak) (w:World) (hE:Env w) (hT:d9 w T x):
 Calls Tryz.prog 217 #[.string s,.pointer (some ⟨T,0,none⟩)] w (A0 (ix s x) x 0 T w):=(Mm s hs T x w hE hT).mono fun _ _ h=>Jr (fun _ hz=>GR hz) h
theorem QA (s:ByteArray) (hs:s.size<=1048576) (T:Nat) (x:ak) (w:World) (hE:Env w) (hT:d9 w T x):
 Calls Tryz.prog 219 #[.string s,.pointer (some ⟨T,0,none⟩)] w (A0 (gD s x) x 1 T w):=(Oq s hs T x w hE hT).mono fun _ _ h=>Jr (fun _ hz=>G6 hz) h
theorem uB (nm nu r:ByteArray) (y y1 y2:ak) (Xm gp:Bool) (hy:y={lF with scheme:=y.scheme,path:=y.path}) (qO:nm.data.toList=(Lib.cut r.data.toList [58]).1) (WN:nu.data.toList=(Lib.cut r.data.toList [58]).2.1)
  (nV:(Lib.cut r.data.toList [58]).2.2=Xm) (h1:∀z,ix nm y=some z->z=y1) (h2:Xm=true->∀z,gD nu y1=some z->z=y2) (h3:Xm=false->y2=y1) (TD:(y.path.data.toList.isEmpty||Lz.gR Lz.ib y.path.data.toList)=gp):
  Lz.lJ y.scheme.data.toList y.path.data.toList r.data.toList=if((ix nm y).isSome&&(if Xm then(gD nu y1).isSome else true))&&gp then some y2.src else none:=by
 have hh:Lz.AD nm.data.toList=(ix nm y).map (fun z=>(z.wild,z.host.data.toList)):=by
  unfold Lz.AD ix;split
  ·rw[hy];rfl
  ·split<;>rfl
 unfold Lz.lJ;rw[<-qO,<-WN,hh,nV,TD];cases ho:ix nm y with
 | none=>rfl
 | some z=>
   have hz:=h1 z ho;subst hz
   have eM:z={y with wild:=z.wild,host:=z.host}:=by
    unfold ix at ho;split at ho
    ·rw[<-Option.some.inj ho]
    ·split at ho
     ·rw[<-Option.some.inj ho]
     ·cases ho
   cases Xm with
   | false=>
     have Ua:=h3 rfl;subst Ua;simp only[Option.map_some,Option.isSome_some,Bool.true_and,Bool.false_eq_true,if_false];cases gp
     ·rfl
     ·simp only[if_true];rw[eM,hy];rfl
   | true=>
     simp only[Option.map_some,Option.isSome_some,Bool.true_and,if_true]
     have hp:Lz.mu nu.data.toList=(gD nu z).map (·.port):=by
      unfold gD;rw[Option.map_map]
      simp[Function.comp_def]
     rw[hp];cases hpo:gD nu z with
     | none=>rfl
     | some q=>
       have hq:=h2 rfl q hpo;subst hq
       have bQ:q={z with port:=q.port}:=by
        unfold gD at hpo;obtain⟨n,_,hn⟩:=Option.map_eq_some_iff.1 hpo;rw[<-hn]
       simp only[Option.map_some,Option.isSome_some,Bool.true_and];cases gp
       ·rfl
       ·simp only[if_true];rw[bQ,eM,hy];rfl
theorem AX (s:ByteArray) (k:Nat):(s.extract k s.size).data.toList=s.data.toList.drop k:=by
 rw[Lib.extract_data,List.take_of_length_le (by rw[List.length_drop,aa];exact Nat.le_refl _)]
theorem BU (s:ByteArray) (k:Nat):(s.extract 0 k).data.toList=s.data.toList.take k:=by
 rw[Lib.extract_data];rfl
theorem gb.setRow {w:World} {R:Nat} {cs:Array Value} {t:TypeId} {fr:Nat×Nat} (hr:w.heap[R]? =some (.cells cs t fr)) (h0:cs[0]? =some (.int .i64 0)) (cells:Array Value):∀{n:Nat} {v:Value},gb w n v->gb (w.setRow R cells) n v
 | 0,_,h=>h
 | n+1,v,h=>by
   have hc:w.cell? ⟨R,0,none⟩=some (.int .i64 0):=by rw[cell_of_row w R 0 _ _ _ hr];exact h0
   rcases h with h|⟨p,g,len,cap,v0,h1,h2,h3,h4,h5,h6,h7,h8⟩
   ·exact Or.inl (gb.setRow hr h0 cells h)
   ·have hpR:p≠R:=by rintro rfl;rw[hc]at h4;cases h4
    have hgR:g≠R:=by
     rintro rfl;rw[hc]at h7;obtain⟨t,x,hx⟩:=h8.iface';rw[hx]at h7;cases h7
    exact Or.inr ⟨p,g,len,cap,v0,h1,by rw[setRow_size];exact h2,by rw[setRow_size];exact h3,by rw[cell_setRow_other _ _ _ _ hpR];exact h4,h5,h6,by rw[cell_setRow_other _ _ _ _ hgR];exact h7,gb.setRow hr h0 cells h8⟩
theorem NX {o:Option Lz.Src} {gg:Bool} {y:ak} {v:Value} {w:World} {n R:Nat} {cs:Array Value} {t:TypeId} {fr:Nat×Nat} (hr:w.heap[R]? =some (.cells cs t fr)) (h0:cs[0]? =some (.int .i64 0)) (cells:Array Value)
  (ho:o=if gg then some y.src else none) (hv:iK w n gg v):Hid (oI o y (w.setRow R cells) n v):=by
 rcases hv with⟨rfl,rfl⟩|⟨rfl,hb⟩
 ·subst ho;exact⟨rfl,rfl⟩
 ·subst ho;exact hb.setRow hr h0 cells
theorem iK.zero {w w':World} {g:Bool} {v:Value} (h:iK w 0 g v):iK w' 0 g v:=h
theorem zM (s p:List UInt8):(Lib.cut s p).1.length<=s.length/\(Lib.cut s p).2.1.length<=s.length:=by
 unfold Lib.cut;split
 ·exact⟨by simp[List.length_take];omega,by simp[List.length_drop]⟩
 ·simp
theorem B6 (s:ByteArray) (w:World):Calls Tryz.prog 64 #[.string s,.int .u8 47] w fun e w'=>e=.returned (.int .i64 (Lib.indexByte s.data.toList 47))/\w=w':=lI s 47 w
theorem B0 (l:List UInt8) (c:UInt8):Lib.indexByte l c<l.length:=by
 induction l with
 | nil=>unfold Lib.indexByte;simp
 | cons b l ih=>
   unfold Lib.indexByte;split
   ·simp
   ·split
    ·simp
     omega
    ·simp
     omega
theorem JJ {w w1:World} {o1 o2:Obj} (hb:Below ((w.alloc o1).alloc o2).heap.size ((w.alloc o1).alloc o2) w1):w1.heap[w.heap.size]? =some o1/\w1.heap[w.heap.size+1]? =some o2:=by
 have h1:((w.heap.push o1).push o2)[w.heap.size]? =some o1:=by
  rw[Array.getElem?_push,if_neg (by simp),Array.getElem?_push,if_pos rfl]
 have h2:((w.heap.push o1).push o2)[w.heap.size+1]? =some o2:=by
  rw[Array.getElem?_push,if_pos (by simp)]
 exact⟨(hb.block _ (by simp;omega)).trans h1,(hb.block _ (by simp)).trans h2⟩
structure kZ (w wx:World) (x:ak):Prop where
 row:∃cs:Array Value,cs.size=8/\cs[0]? =some (.int .i64 0)/\wx.heap[w.heap.size]? =some (.cells cs 174 (0,0))
 src:d9 wx (w.heap.size+1) x
 below:Below w.heap.size w wx
theorem kZ.call {w w1 w2:World} {x:ak} (h:kZ w w1 x) (hb:Below w1.heap.size w1 w2):kZ w w2 x:=by
 obtain⟨⟨cs,h1,h2,h3⟩,h4,h5⟩:=h;exact⟨⟨cs,h1,h2,by rw[hb.block _ (Array.getElem?_eq_some_iff.1 h3).1];exact h3⟩,h4.below hb,ac h5 hb⟩
theorem kZ.into {w w1 w2:World} {x y:ak} (h:kZ w w1 x) (hb:Below (w.heap.size+1) w1 w2) (hy:d9 w2 (w.heap.size+1) y):kZ w w2 y:=by
 obtain⟨⟨cs,h1,h2,h3⟩,h4,h5⟩:=h;exact⟨⟨cs,h1,h2,by rw[hb.block _ (by omega)];exact h3⟩,hy,h5.trans (hb.mono (by omega))⟩
theorem kZ.drew {w w1:World} {x:ak} (h:kZ w w1 x):kZ w w1.drew x:=⟨h.row,h.src,h.below.drew⟩
def YG (s:ByteArray) (w:World) (v:Value) (wx:World):Prop:=
 ∃(rest:ByteArray) (x:ak),v=.string rest/\rest.size<=1048576/\kZ w wx x/\Hid (Lz.gA s.data.toList=Lz.ly x.scheme.data.toList rest.data.toList/\x={lF with scheme:=x.scheme})
def YZ (s:ByteArray) (w:World) (v:Value) (wx:World):Prop:=
 ∃(r:ByteArray) (y:ak),v=.string r/\r.size<=1048576/\y.path.size<=1048576/\kZ w wx y/\Hid (Lz.gA s.data.toList=Lz.lJ y.scheme.data.toList y.path.data.toList r.data.toList/\y={lF with scheme:=y.scheme,path:=y.path})
def Zi (s:ByteArray) (w:World) (v:Value) (wx:World):Prop:=
 ∃(gg:Bool) (y:ak),Hid (iK wx 2 gg v)/\y.path.size<=1048576/\kZ w wx y/\Hid (∀gp,(y.path.data.toList.isEmpty||Lz.gR Lz.ib y.path.data.toList)=gp->Lz.gA s.data.toList=if gg&&gp then some y.src else none)
def YD (s:ByteArray) (w:World) (v:Value) (wx:World):Prop:=
 ∃(gg:Bool) (y:ak),Hid (iK wx 3 gg v)/\kZ w wx y/\Hid (Lz.gA s.data.toList=if gg then some y.src else none)
theorem Gs (s:ByteArray) (hs:s.size<=1048576) (w:World) (hE:Env w):Calls Tryz.prog 179 #[.string s] w (Uu (Lz.gA s.data.toList) 3 w):=by
 go_enter Tryz.func179,Tryz.ntmps179
 go_wp2_with fail
 have iB:Below w.heap.size w ((w.alloc (.cells #[.int .i64 0,.string ⟨#[]⟩,.int .i64 0,.string ⟨#[]⟩,.string ⟨#[]⟩,.bool false,.int .i64 0,.string ⟨#[]⟩] 174)).alloc (.cells lF.cells 174)):=((Below.refl _ w).alloc (Nat.le_refl _) _).alloc (by simp) _;refine(Ny s ⟨#[58,47,47]⟩ (by omega) _ (hE.below iB)).mono ?_;rintro e w1 ⟨hd,Pv,rfl,T7,uK,ar⟩;obtain⟨pG,vN⟩:=JJ ar;have iY:=ac iB ar;have Fw:kZ w w1 lF:=⟨⟨_,rfl,rfl,pG⟩,vN,iY⟩;clear ar iB pG vN iY;generalize nV:(Lib.cut s.data.toList (ByteArray.data ⟨#[58,47,47]⟩).toList).2.2=ok;have Sn:=Ih nV;clear nV;have hz:=zM s.data.toList [58,47,47];have hhz:hd.size<=1048576:=by rw[<-aa hd,T7.out];exact Nat.le_trans hz.1 (by rw[aa];exact hs)
 have WY:Pv.size<=1048576:=by rw[<-aa Pv,uK.out];exact Nat.le_trans hz.2 (by rw[aa];exact hs)
 clear hz;have cS:=Ih (xd hd (by omega) w1);generalize hsb:Lz.fT hd.data.toList=sb at cS;have XJ:=Ih hsb;clear hsb
 go_upto_if 20 with fail
 go_cut [0] (fun s0 wx=>YG s w s0 wx)
 case first=>
  cases ok
  ·go_wp2_with fail
   go_meet;refine⟨s,lF,rfl,hs,Fw,?_,rfl⟩;unfold Lz.gA;have h1:(Lib.cut s.data.toList [58,47,47]).2.2=false:=Sn.out;simp only[h1];rfl
  ·cases sb
   ·obtain⟨⟨cs,Iq,Xk,lk⟩,vN,iY⟩:=Fw
    go_wp2_with (first |(go_at_call 178;refine(cS.out).mono ?_;rintro e w2 ⟨rfl,rfl⟩)|(refine eh rfl _ _ rfl w.heap.size rfl rfl _ lk Iq ?_))
    refine bodyPost_ret (ef rfl _ _ w.heap.size ⟨0,⟨#[]⟩,0,⟨#[]⟩,⟨#[]⟩,false,0,⟨#[]⟩⟩ (0,0) rfl (setRow_heap _ _ _ _ _ _ lk)) rfl ⟨_,_,rfl,?_,below_setRow iY (Nat.le_refl _) _⟩
    have hn:Lz.gA s.data.toList=none:=by
     unfold Lz.gA;have h1:(Lib.cut s.data.toList [58,47,47]).2.2=true:=Sn.out;have h2:Lz.fT (Lib.cut s.data.toList [58,47,47]).1=false:=by rw[<-XJ.out,T7.out]
     simp only[h1,h2,if_true];rfl
    rw[hn];exact Or.inl (Or.inl (Or.inl ⟨_,rfl⟩))
   ·go_wp2_with fail
    refine(cS.out).mono ?_;rintro e w2 ⟨rfl,rfl⟩
    go_wp2_with fail
    refine(kv hd (by omega) _).mono ?_;rintro e w2 ⟨u,rfl,hu,az⟩;have Fp:=Fw.call az;have AI:=Fp.src;have c3:=AI.cell 3;have f3:=AI.free 3;simp only[ak.cells]at c3
    simp at c3
    have TS:=AI.store (y:={lF with scheme:=u}) 3 (.string u) (by rfl);have hH3:=Fp.into ((Below.refl (w.heap.size+1) w2).setCell (p:=⟨w.heap.size+1,3,none⟩) (Nat.le_refl _) (.string u)) TS;clear AI TS az
    go_wp2_with fail
    go_meet;refine⟨Pv,{lF with scheme:=u},rfl,WY,hH3,?_,rfl⟩;unfold Lz.gA;have h1:(Lib.cut s.data.toList [58,47,47]).2.2=true:=Sn.out;have h2:Lz.fT (Lib.cut s.data.toList [58,47,47]).1=true:=by rw[<-XJ.out,T7.out]
    simp only[h1,h2,if_true];show _=Lz.ly u.data.toList _;rw[hu.out,T7.out,uK.out]
 case rest=>
  clear Fw cS XJ Sn T7 uK hhz WY;obtain⟨rest,x,rfl,WY,Fw,HS⟩:=hcut
  go_wp2_with fail
  have cI:=Ih (B6 rest wc);have IB:=B0 rest.data.toList 47;rw[aa]at IB;generalize hi:Lib.indexByte rest.data.toList 47=i at cI IB;have Hi:=Ih hi;clear hi;refine(cI.out).mono ?_;rintro e w2 ⟨rfl,rfl⟩
  go_upto_if 33 with fail
  go_cut [0] (fun s0 wx=>YZ s w s0 wx)
  case first=>
   by_cases o9:0<=i
   ·obtain⟨k,rfl⟩:∃k:Nat,i=k:=⟨i.toNat,by omega⟩;have vN:=Fw.src;have c7:=vN.cell 7;have f7:=vN.free 7;simp only[ak.cells]at c7
    simp at c7
    have AI:=vN.store (y:={x with path:=rest.extract k rest.size}) 7 (.string (rest.extract k rest.size)) (by rfl);have Fp:=(Fw.into ((Below.refl (w.heap.size+1) wc).setCell (p:=⟨w.heap.size+1,7,none⟩) (Nat.le_refl _) (.string (rest.extract k rest.size))) AI).drew;clear AI vN
    go_wp2
    go_region
    go_wp2_with fail
    go_meet;refine⟨rest.extract 0 k,{x with path:=rest.extract k rest.size},rfl,Nat.le_trans (fK _ _ _) WY,Nat.le_trans (fK _ _ _) WY,Fp,?_,by rw[HS.out.2]⟩;rw[HS.out.1];unfold Lz.ly;rw[Hi.out,if_pos (by omega)];show _=Lz.lJ x.scheme.data.toList (rest.extract k rest.size).data.toList _;rw[AX,BU];rfl
   ·have V6:i<0:=by omega
    go_wp2_with fail
    go_meet;have h2:=HS.out.2;refine⟨rest,x,rfl,WY,by rw[h2];exact Nat.zero_le _,Fw,?_,by rw[h2]⟩;rw[HS.out.1];unfold Lz.ly;rw[Hi.out,if_neg (by omega)];rw[h2];rfl
  case rest=>
   clear Fw Hi cI IB HS WY;obtain⟨r,y,rfl,Ue,ZY,Fp,HQ⟩:=hcut;rename_i w3
   go_wp2_with fail
   refine(Ny r ⟨#[58]⟩ (by omega) _ (hE.below Fp.below)).mono ?_;rintro e w4 ⟨nm,nu,rfl,qO,WN,dy⟩;generalize nV:(Lib.cut r.data.toList (ByteArray.data ⟨#[58]⟩).toList).2.2=Xm;have Xn:=Ih nV;clear nV;have hz:=zM r.data.toList [58];have aaB:nm.size<=1048576:=by rw[<-aa nm,qO.out];exact Nat.le_trans hz.1 (by rw[aa];exact Ue)
   have aaZ:nu.size<=1048576:=by rw[<-aa nu,WN.out];exact Nat.le_trans hz.2 (by rw[aa];exact Ue)
   clear hz;have hH4:=Fp.call dy;clear Fp dy
   go_wp2_with fail
   refine(R3 nm aaB (w.heap.size+1) y w4 (hE.below hH4.below) hH4.src).mono ?_;rintro e w5 ⟨v1,y1,rfl,uL,hT5,P2,aI⟩;have Yf:=hH4.into aI hT5;clear hH4 aI hT5
   go_upto_if 49 with fail
   go_cut [12] (fun s12 wx=>Zi s w s12 wx)
   case first=>
    cases Xm
    ·go_wp2_with fail
     go_meet;refine⟨(ix nm y).isSome,y1,uL.out.succ.succ,by rw[P2.out.2];exact ZY,Yf,fun gp TD=>?_⟩;rw[HQ.out.1,uB nm nu r y y1 y1 false gp HQ.out.2 qO.out WN.out Xn.out P2.out.1 (fun h=>by cases h) (fun _=>rfl) (by rw[<-P2.out.2];exact TD)];simp only[Bool.false_eq_true,if_false,Bool.and_true]
    ·go_wp2_with fail
     refine(QA nu aaZ (w.heap.size+1) y1 w5 (hE.below Yf.below) Yf.src).mono ?_;rintro e w6 ⟨v2,y2,rfl,je,hT6,P1,fX⟩;have hH6:=Yf.into fX hT6;have f1:=uL.out.form;have f2:=je.out.form;clear Yf fX hT6;rcases f1 with rfl|⟨t1,q1,rfl⟩<;>rcases f2 with rfl|⟨t2,q2,rfl⟩
     all_goals
      go_wp2_with fail
      refine(Je w6.heap.size 1 _ _ _ _ _ uL.out.zero.succ (je.out.below ((Below.refl _ w6).alloc (Nat.le_refl _) _)) (by simp) (by simp)).mono ?_;rintro e w7 ⟨v3,rfl,O0,kJ⟩;have Pm:=hH6.call (((Below.refl _ w6).alloc (Nat.le_refl _) _).trans (kJ.mono (by simp)));clear kJ
      go_wp2_with fail
      go_meet;refine⟨_,y2,O0.out,by rw[P1.out.2,P2.out.2];exact ZY,Pm,fun gp TD=>?_⟩;rw[HQ.out.1];exact uB nm nu r y y1 y2 true gp HQ.out.2 qO.out WN.out Xn.out P2.out.1 (fun _=>P1.out.1) (fun h=>by cases h) (by rw[<-P2.out.2,<-P1.out.2];exact TD)
   case rest=>
    clear Yf uL P2 Xn qO WN aaB aaZ HQ ZY Ue;obtain⟨gg,y2,O0,acM,Pm,HF⟩:=hcut;have hT7:=Pm.src;have c7:=hT7.cell 7;have f7:=hT7.free 7;simp only[ak.cells]at c7
    simp at c7
    have cP:=Ih (fun w=>rR KZ y2.path (by omega) w);generalize vr:Lz.gR Lz.ib y2.path.data.toList=sn at cP;have Hsn:=Ih vr;clear vr hT7;obtain⟨gp,TD⟩:∃gp,gp=(y2.path.data.toList.isEmpty||sn):=⟨_,rfl⟩;have Hgp:=Ih TD;clear TD
    go_upto_region 14 with fail
    go_cut [63] (fun s63 wx=>s63=.bool (!gp)/\kZ w wx y2/\Hid (iK wx 2 gg u12))
    case first=>
     by_cases yz:0<y2.path.size
     ·have he:=an yz;have Iv:gp=sn:=by rw[Hgp.out];rw[Lib.toList_data]at he;rw[he];rfl
      subst Iv
      go_wp2_with (go_at_call 215;refine(cP.out _).mono ?_;rintro e w8 ⟨rfl,rfl⟩)
      go_meet;exact⟨rfl,Pm,O0⟩
     ·have he:=aq (show y2.path.size=0 by omega);have Iv:gp=true:=by rw[Hgp.out];rw[Lib.toList_data]at he;rw[he];rfl
      subst Iv
      go_wp2_with (go_at_call 215;refine(cP.out _).mono ?_;rintro e w8 ⟨rfl,rfl⟩)
      go_meet;exact⟨rfl,Pm,O0⟩
    case rest=>
     clear Pm O0 c7 f7 cP;obtain⟨rfl,Pm,O0⟩:=hcut
     go_upto_if 63 with fail
     go_cut [12] (fun s12 wx=>YD s w s12 wx)
     case first=>
      have HG:=HF.out gp (by rw[Hsn.out,Hgp.out]);have HG:=Ih HG;clear HF;cases gp
      ·have f3:=O0.out.form;rcases f3 with rfl|⟨t3,q3,rfl⟩
       all_goals
        go_wp2_with fail
        refine(Je _ 2 _ false _ (.iface 196 (.string ⟨#[112,97,116,104]⟩)) _ (O0.out.below ((Below.refl _ _).alloc (Nat.le_refl _) _)) (Or.inr ⟨rfl,Or.inl (Or.inl ⟨_,rfl⟩)⟩) (by simp) (by simp)).mono ?_;rintro e w8 ⟨v4,rfl,hv4,pM⟩;have hH8:=Pm.call (((Below.refl _ _).alloc (Nat.le_refl _) _).trans (pM.mono (by simp)));clear pM Pm O0
        go_wp2_with fail
        go_meet;exact⟨_,y2,hv4.out,hH8,HG.out⟩
      ·go_wp2_with fail
       go_meet;exact⟨gg,y2,O0.out.succ,Pm,by have h:=HG.out;rw[Bool.and_true]at h;exact h⟩
     case rest=>
      clear Pm O0 HF Hgp Hsn;obtain⟨gg,y3,hv4,hH9,HG⟩:=hcut;obtain⟨⟨cs,Iq,Xk,hR9⟩,hT9,X6⟩:=hH9;have abC:=Ih Xk;have Hv:=Ih hv4;clear Xk;have hTl:_=some (Obj.cells #[.int .i64 y3.kind,.string y3.text,.int .i64 y3.bits,.string y3.scheme,.string y3.host,.bool y3.wild,.int .i64 y3.port,.string y3.path] 174 (0,0)):=hT9;clear hT9
      go_wp2_with (first |(refine wpList_load_row rfl 174 _ rfl (w.heap.size+1) rfl 174 _ (0,0) _ hTl Tryz.underlying174 rfl BE ?_)|(refine eh rfl _ _ rfl w.heap.size rfl rfl _ hR9 Iq ?_))
      refine bodyPost_ret (ef (u:=3) rfl _ _ w.heap.size y3 (0,0) rfl (setRow_heap _ _ _ _ _ _ hR9)) rfl ⟨y3,_,rfl,NX hR9 abC.out _ HG.out hv4.out,below_setRow X6 (Nat.le_refl _) _⟩
theorem gb.up {w:World} {n m:Nat} {v:Value} (qO:n<=m) (h:gb w n v):gb w m v:=by
 induction qO with
 | refl=>exact h
 | step _ ih=>exact Or.inl ih
theorem oI.up {o:Option Lz.Src} {x:ak} {w:World} {n m:Nat} {v:Value} (qO:n<=m) (h:oI o x w n v):oI o x w m v:=by
 cases o with
 | none=>exact gb.up qO h
 | some y=>exact h
theorem oI.setRow {o:Option Lz.Src} {x:ak} {w:World} {R:Nat} {cs:Array Value} {t:TypeId} {fr:Nat×Nat} {n:Nat} {v:Value} (hr:w.heap[R]? =some (.cells cs t fr)) (h0:cs[0]? =some (.int .i64 0)) (cells:Array Value) (h:oI o x w n v):oI o x (w.setRow R cells) n v:=by
 cases o with
 | none=>exact gb.setRow hr h0 cells h
 | some y=>exact h
theorem yZ (s p:List UInt8):(Lib.trimSuffix s p).length<=s.length:=by
 unfold Lib.trimSuffix;split
 ·simp[List.length_take]
 ·exact Nat.le_refl _
theorem jE {w w1:World} {o:Obj} (hb:Below (w.alloc o).heap.size (w.alloc o) w1):w1.heap[w.heap.size]? =some o:=by
 rw[hb.block w.heap.size (by simp)];show(w.heap.push _)[w.heap.size]? =_
 simp
theorem Rq {s:ByteArray} (h:0<s.size):s.data.toList.head? =some s[0]:=by
 have:=aB h;cases hl:s.data.toList with
 | nil=>rw[hl]at this;cases this
 | cons a r=>rw[hl]at this;simpa using this
theorem Rm {s:ByteArray} (h:0<s.size):s.data.toList.getLast? =some (s[s.size-1]'(by omega)):=by
 rw[List.getLast?_eq_getElem?,aa];exact aB (by omega)
theorem Et (a b:UInt8):((a.toNat:Int)==(b.toNat:Int))=(a==b):=by
 by_cases h:a=b
 ·subst h;simp
 ·have:¬(a.toNat:Int)=b.toNat:=fun e=>h (UInt8.toNat_inj.1 (by omega));rw[beq_eq_false_iff_ne.2 this,beq_eq_false_iff_ne.2 h]
theorem sK (s:ByteArray):(s.extract 1 (s.size-1)).data.toList=(s.data.toList.drop 1).dropLast:=by
 rw[Lib.extract_data,List.dropLast_eq_take,List.length_drop,aa]
theorem JT (s:ByteArray) (hs:s.size<=1048576) (w:World) (hE:Env w):Calls Tryz.prog 144 #[.string s] w (Uu (Lz.ez s.data.toList) 3 w):=by
 obtain⟨q,hq⟩:∃q,q=Lz.vU s.data.toList:=⟨_,rfl⟩;have Hq:=Ih hq;clear hq;have iB:Below w.heap.size w (w.alloc (.cells #[.int .i64 0,.string ⟨#[]⟩,.int .i64 0,.string ⟨#[]⟩,.string ⟨#[]⟩,.bool false,.int .i64 0,.string ⟨#[]⟩] 174)):=(Below.refl _ w).alloc (Nat.le_refl _) _;have To:=hE.below iB;go_enter Tryz.func144,Tryz.ntmps144
 go_upto_region 1 with fail
 go_cut [21] (fun s21 wx=>s21=.bool q/\wx=(w.alloc (.cells #[.int .i64 0,.string ⟨#[]⟩,.int .i64 0,.string ⟨#[]⟩,.string ⟨#[]⟩,.bool false,.int .i64 0,.string ⟨#[]⟩] 174)))
 case first=>
  by_cases h1:1<s.size
  ·have h0:0<s.size:=by omega
   have hl:s.size-1<s.size:=by omega
   have g0:=Rq h0;have g1:=Rm h0
   have Cc:q=((s[0].toNat:Int)==39&&((s[s.size-1].toNat:Int)==39)):=by
    rw[Hq.out];unfold Lz.vU;rw[g0,g1,aa,decide_eq_true h1];have e1:=Et s[0] 39;have e2:=Et (s[s.size-1]'(by omega)) 39;simp only[Bool.true_and];rw[show((39:UInt8).toNat:Int)=39 from rfl]at e1 e2;rw[e1,e2];rfl
   have Hqe:=Ih Cc;clear Cc g0 g1;generalize ha:((s[0].toNat:Int)==39)=a at Hqe;generalize hb:((s[s.size-1].toNat:Int)==39)=b at Hqe;cases a<;>cases b
   all_goals
    go_wp2_with fail
    all_goals
     go_meet;exact⟨by have h:=Hqe.out;subst h;rfl,rfl⟩
  ·have Cc:q=false:=by
    rw[Hq.out];unfold Lz.vU;rw[aa,decide_eq_false h1];rfl
   have Hqe:=Ih Cc;clear Cc;have SH:(s.size:Int)<=1:=by omega
   clear h1
   go_wp2_with fail
   all_goals
    go_meet;exact⟨by have h:=Hqe.out;subst h;rfl,rfl⟩
 case rest=>
  obtain⟨rfl,rfl⟩:=hcut;cases q
  ·go_wp2_with fail
   refine(D0 s ⟨#[58]⟩ (by omega) _).mono ?_;rintro e w1 ⟨v,rfl,hv,rfl⟩
   have hvz:v.size<=1048576:=by
    rw[<-aa v,hv.out];exact Nat.le_trans (yZ _ _) (by rw[aa];exact hs)
   have cS:=Ih (fun w=>xd v (by omega) w);generalize XZ:Lib.hasSuffix s.data.toList (ByteArray.data ⟨#[58]⟩).toList=sf;have Hsf:=Ih XZ;clear XZ;generalize hsb:Lz.fT v.data.toList=sb at cS;have XJ:=Ih hsb;clear hsb;by_cases ZW:sf=true/\sb=true
   ·obtain⟨rfl,rfl⟩:=ZW
    go_wp2_with fail
    refine(cS.out _).mono ?_;rintro e w1 ⟨rfl,rfl⟩
    go_wp2_with fail
    refine(kv v (by omega) _).mono ?_;rintro e w1 ⟨u,rfl,hu,ar⟩;have lk:=jE ar;have iY:=ac iB ar
    go_wp2_with (refine eh rfl _ _ rfl w.heap.size rfl rfl _ lk rfl ?_)
    refine bodyPost_ret (ef (u:=3) rfl _ _ w.heap.size ⟨2,⟨#[]⟩,0,u,⟨#[]⟩,false,-1,⟨#[]⟩⟩ (0,0) rfl (setRow_heap _ _ _ _ _ _ lk)) rfl ⟨_,_,rfl,?_,below_setRow iY (Nat.le_refl _) _⟩
    have hp:Lz.ez s.data.toList=some (Lz.I7 (Lz.low v.data.toList)):=by
     unfold Lz.ez;have h1:Lib.hasSuffix s.data.toList [58]=true:=Hsf.out;have h2:v.data.toList=Lib.trimSuffix s.data.toList [58]:=hv.out;rw[<-Hq.out,<-h2,h1,XJ.out];rfl
    rw[hp];exact⟨by unfold ak.src;rw[hu.out];rfl,rfl⟩
   ·have hp:Lz.ez s.data.toList=Lz.gA s.data.toList:=by
     unfold Lz.ez;have h2:v.data.toList=Lib.trimSuffix s.data.toList [58]:=hv.out;have h1:Lib.hasSuffix s.data.toList [58]=sf:=Hsf.out;rw[<-Hq.out,<-h2,h1,XJ.out];cases sf<;>cases sb<;>simp_all
    have Hp:=Ih hp;have yv:(sf=false)\/(sf=true/\sb=false):=by cases sf<;>cases sb<;>simp_all
    clear ZW hp;rcases yv with rfl|⟨rfl,rfl⟩
    all_goals
     go_wp2_with (first |(go_at_call 178;refine(cS.out _).mono ?_;rintro e w1 ⟨rfl,rfl⟩)|(go_at_call 179;fail))
     refine(Gs s hs _ To).mono ?_;rintro e w1 ⟨x,v2,rfl,je,ar⟩;have lk:=jE ar;have iY:=ac iB ar;clear ar;obtain⟨k1,t1,b1,bo,LR,Yb,Yp,ck⟩:=x
     go_wp2_with (refine eh rfl _ _ rfl w.heap.size rfl rfl _ lk rfl ?_)
     refine bodyPost_ret (ef (u:=3) rfl _ _ w.heap.size ⟨k1,t1,b1,bo,LR,Yb,Yp,ck⟩ (0,0) rfl (setRow_heap _ _ _ _ _ _ lk)) rfl ⟨_,_,rfl,?_,below_setRow iY (Nat.le_refl _) _⟩;rw[Hp.out];exact je.out.setRow lk rfl _
  ·have h1:1<s.size:=by
    have h:=Hq.out;unfold Lz.vU at h;rw[aa]at h;by_cases h1:1<s.size
    ·exact h1
    ·rw[decide_eq_false h1]at h
     simp at h
   have hz:=fK s 1 (s.size-1);have iD:((s.size:Int)-1)=((s.size-1:Nat):Int):=by omega
   have Hc1:=Ih iD;clear iD
   go_wp2_with fail
   refine(GJ (s.extract 1 (s.size-1)) (by omega) _ To).mono ?_;rintro e w1 ⟨x,v2,rfl,je,ar⟩;have lk:=jE ar;have iY:=ac iB ar;clear ar
   have hp:Lz.ez s.data.toList=Lz.iR (s.extract 1 (s.size-1)).data.toList:=by
    unfold Lz.ez;rw[<-Hq.out,sK,if_pos rfl]
   have Hp:=Ih hp;clear hp;obtain⟨k1,t1,b1,bo,LR,Yb,Yp,ck⟩:=x
   go_wp2_with (refine eh rfl _ _ rfl w.heap.size rfl rfl _ lk rfl ?_)
   refine bodyPost_ret (ef (u:=3) rfl _ _ w.heap.size ⟨k1,t1,b1,bo,LR,Yb,Yp,ck⟩ (0,0) rfl (setRow_heap _ _ _ _ _ _ lk)) rfl ⟨_,_,rfl,?_,below_setRow iY (Nat.le_refl _) _⟩;rw[Hp.out];exact(je.out.up (Nat.zero_le 3)).setRow lk rfl _
def lP (l:List UInt8):Lz.Src:=(Lz.ez l).getD ⟨0,[],0,[],[],false,0,[]⟩
def ic (l:List UInt8):Int:=if(Lz.ez l).isSome then 0 else 250
def Oh (l:List UInt8) (w:World) (e:Ending) (w':World):Prop:=
 ∃x:ak,e=.returned (.tuple #[x.val,.int .i64 (ic l)])/\Hid (x.src=lP l)/\Below w.heap.size w w'
theorem rK {fn:Func} {p u:Tmp} (h:fn.results= #[.cell p 174,.tmp u]) (tmps:Array Value) (w:World) (g:Nat) (x:ak) (fr:Nat×Nat) (n:Int)
  (hp:tmps.getD p undef=.pointer (some ⟨g,0,none⟩)) (hu:tmps.getD u undef=.int .i64 n) (hg:w.heap[g]? =some (.cells #[.int .i64 x.kind,.string x.text,.int .i64 x.bits,.string x.scheme,.string x.host,.bool x.wild,.int .i64 x.port,.string x.path] 174 fr)):
  (results fn tmps).run Tryz.prog w=.ok (.tuple #[x.val,.int .i64 n]) w:=by
 rw[<-hu];exact ef h tmps w g x fr hp hg
theorem zR (s:ByteArray) (hs:s.size<=1048576) (w:World) (hE:Env w):Calls Tryz.prog 114 #[.string s] w (Oh s.data.toList w):=by
 have iB:Below w.heap.size w (w.alloc (.cells #[.int .i64 0,.string ⟨#[]⟩,.int .i64 0,.string ⟨#[]⟩,.string ⟨#[]⟩,.bool false,.int .i64 0,.string ⟨#[]⟩] 174)):=(Below.refl _ w).alloc (Nat.le_refl _) _;have To:=hE.below iB;go_enter Tryz.func114,Tryz.ntmps114
 go_wp2_with fail
 refine(JT s hs _ To).mono ?_;rintro e w1 ⟨x,v,rfl,hv,ar⟩;have lk:=jE ar;have iY:=ac iB ar;have qX:=hE.below iY;clear ar;obtain⟨k1,t1,b1,bo,LR,Yb,Yp,ck⟩:=x
 dsimp only[ak.val]
 have nO:∀o1 o2:Obj,((w1.alloc o1).alloc o2).heap[w.heap.size]? =some (.cells #[.int .i64 0,.string ⟨#[]⟩,.int .i64 0,.string ⟨#[]⟩,.string ⟨#[]⟩,.bool false,.int .i64 0,.string ⟨#[]⟩] 174 (0,0)):=fun o1 o2=>by
  have hl:=(Array.getElem?_eq_some_iff.1 lk).1;rw[Below.heap_alloc _ _ _ (by simp;omega),Below.heap_alloc _ _ _ hl];exact lk
 cases hp:Lz.ez s.data.toList with
 | some y=>
   rw[hp]at hv;obtain⟨hy,rfl⟩:=hv.out;have Hy:=Ih hy;clear hy hv;have HE:Hid (ic s.data.toList=0/\lP s.data.toList=y):=by refine⟨?_,?_⟩<;>simp[ic,lP,hp]
   clear hp
   go_wp2_with fail
   refine(Vz _ _).mono ?_;rintro e w2 ⟨rfl,rfl⟩
   go_wp2_with (refine eh rfl _ _ rfl w.heap.size rfl rfl _ (nO _ _) rfl ?_)
   refine bodyPost_ret (rK (u:=3) rfl _ _ w.heap.size ⟨k1,t1,b1,bo,LR,Yb,Yp,ck⟩ (0,0) 0 rfl rfl (setRow_heap _ _ _ _ _ _ (nO _ _))) rfl ⟨⟨k1,t1,b1,bo,LR,Yb,Yp,ck⟩,by rw[HE.out.1],by show _=_;rw[HE.out.2];exact Hy.out,below_setRow ?_ (Nat.le_refl _) _⟩;exact(iY.alloc (by have:=iY.size;omega) _).alloc (by have:=iY.size;simp;omega) _
 | none=>
   rw[hp]at hv;have hB:gb w1 3 v:=hv.out;obtain⟨t0,x0,rfl⟩:=hB.iface;have HE:Hid (ic s.data.toList=250/\lP s.data.toList=⟨0,[],0,[],[],false,0,[]⟩):=by refine⟨?_,?_⟩<;>simp[ic,lP,hp]
   clear hp hv;have Pf:∀o1 o2:Obj,Below w1.heap.size w1 ((w1.alloc o1).alloc o2):=fun o1 o2=>((Below.refl _ w1).alloc (Nat.le_refl _) _).alloc (by simp) _;have HB:=Ih hB;clear hB
   go_wp2_with fail
   refine(QX 3 t0 x0 (w1.heap.size+1) (.string ⟨#[]⟩) _ (qX.below (Pf _ _)) (HB.out.below (Pf _ _)) (by simp) (by simp)).mono ?_;rintro e w2 ⟨rfl,az⟩
   have AO:w2.heap[w.heap.size]? =some (.cells #[.int .i64 0,.string ⟨#[]⟩,.int .i64 0,.string ⟨#[]⟩,.string ⟨#[]⟩,.bool false,.int .i64 0,.string ⟨#[]⟩] 174 (0,0)):=by
    have hl:=(Array.getElem?_eq_some_iff.1 lk).1;rw[az.block _ (by omega)];exact nO _ _
   have pL:Below w.heap.size w w2:=(iY.trans ((Pf _ _).mono iY.size)).trans (az.mono (by have:=iY.size;omega));clear az nO Pf lk
   go_wp2_with (refine eh rfl _ _ rfl w.heap.size rfl rfl _ AO rfl ?_)
   refine bodyPost_ret (rK (u:=3) rfl _ _ w.heap.size ⟨0,⟨#[]⟩,0,⟨#[]⟩,⟨#[]⟩,false,0,⟨#[]⟩⟩ (0,0) 250 rfl rfl (setRow_heap _ _ _ _ _ _ AO)) rfl ⟨⟨0,⟨#[]⟩,0,⟨#[]⟩,⟨#[]⟩,false,0,⟨#[]⟩⟩,by rw[HE.out.1],by show _=_;rw[HE.out.2];rfl,below_setRow pL (Nat.le_refl _) _⟩
end Go.Proofs.YtecoeebjaleeiaaGreatDoor
namespace Lz
open Go
def BR:Bs:=[117,110,115,97,102,101,45,105,110,108,105,110,101]
def rX:Bs:=[115,116,114,105,99,116,45,100,121,110,97,109,105,99]
def BO:Bs:=[117,110,115,97,102,101,45,104,97,115,104,101,115]
def kwS (n:Bs) (x:Src):Bool:=x.kind==1&&x.text==n
def uX (l:List Src) (n:Bs):Bool:=l.any (kwS n)
def Bf (kind:Int) (x:Src):Bool:=x.kind==4||(x.kind==5||(kwS rX x&&decide (kind<4)))
def xM (kind:Int) (vs:List Bs):Bool:= !((bF vs).any (Bf kind))&&uX (bF vs) BR
def iE (vs:List Bs) (n:Bs):Bool:=n != []&&(bF vs).any fun x=>x.kind==4&&x.text==n
def nX (c:UInt8):UInt8:=if c=45 then 43 else if c=95 then 47 else c
def dD (l:Bs):Bs:=l.map nX
def ud (sum:Int->Bs->Bs) (vs:List Bs) (t:Bs):Bool:=(bF vs).any fun x=>x.kind==5&&dD x.text==sum x.bits t
def Ox (kind:Int):Bool:=kind==1||kind==4
def gv (sum:Int->Bs->Bs) (kind:Int) (vs:List Bs) (n t:Bs):Bool:=
 if kind<1\/5<kind\/jf vs=true then false
 else if(xM kind vs||(Ox kind&&iE vs n))=true then true
 else(Ox kind||uX (bF vs) BO)&&ud sum vs t
def re (c:UInt8):Bool:=c==32||c==9||c==10||c==12||c==13
def j7 (w:Bs):Option Src:=
 match ez (39::(w.takeWhile (·!= 63)++[39]))with
 | some x=>if x.kind=5 then some x else none
 | none=>none
def nF (aR:Bs->List Bs) (s:Bs):List Src:=(aR s).filterMap j7
def mH (x y:Src):Bool:=y.kind==5&&(y.bits==x.bits&&dD y.text==dD x.text)
def jo (aR:Bs->List Bs) (vs:List Bs) (s:Bs):Bool:=(nF aR s).all (fun x=>(bF vs).any (mH x))&& !(nF aR s).isEmpty
def qv (aR:Bs->List Bs) (vs:List Bs) (u own:ag) (n s:Bs):Bool:=
 if jf vs=true then false
 else if(iE vs n||jo aR vs s)=true then true
 else if uX (bF vs) rX=true then false
 else anyM u vs own false
def b64:Bs:=[65,66,67,68,69,70,71,72,73,74,75,76,77,78,79,80,81,82,83,84,85,86,87,88,89,90,97,98,99,100,101,102,103,104,105,106,107,108,109,110,111,112,113,114,115,116,117,118,119,120,121,122,48,49,50,51,52,53,54,55,56,57,43,47]
def AA (n:Nat):UInt8:=b64.getD (n%64) 0
def na (n k:Nat):Bs:=[AA (n / 262144),AA (n / 4096),if 2<=k then AA (n / 64)else 61,if 3<=k then AA n else 61]
def jg:Bs->Bs
 | []=>[]
 | [a]=>na (a.toNat*65536) 1
 | [a,b]=>na (a.toNat*65536+b.toNat*256) 2
 | a::b::c::r=>na (a.toNat*65536+b.toNat*256+c.toNat) 3++jg r
section
variable (dig:Int->Bs->Bs)
def gK (b:Int) (t:Bs):Bs:=jg (dig b t)
variable {dig}
end
end Lz
namespace Go.Proofs.YtecoeebjaleeiaaGreatDoor
open Go.RowKit
theorem ML:(Tryz.prog.info? 135).map (·.size)=some 1:=by kernel_rfl
theorem KI (l:List UInt32):∀v∈dw l,v.oneCell'=true:=by
 intro v hv;unfold dw at hv;obtain⟨x,_,rfl⟩:=List.mem_map.1 hv;rfl
def V8 (R:Nat) (s:Lz.St8 UInt32) (w:World):Prop:=w.heap[R]? =some (.cells (dw s.list).toArray 238 (0,0))
theorem V8.drew {R:Nat} {s:Lz.St8 UInt32} {w:World} (h:V8 R s w):V8 R s w.drew:=h
def G9 (bi:List UInt32) (w:World):Prop:=9<w.heap.size/\∀i,i<64->w.cell? ⟨9,i,none⟩=some (.int .u32 (N32 (bi.getD i 0)))
theorem jt:(Tryz.prog.info? 238).map (·.size)=some 8:=by kernel_rfl
theorem Rt (l:List UInt32) (hl:l.length=64) (i:Nat) (hi:i<64) (w:World):(Instr.index 288 (.agg (dw l).toArray) (.int .i64 (i:Int))).run Tryz.prog w=.ok (.int .u32 (N32 (l.getD i 0))) w:=by
 unfold Instr.index;have h0:(0:Int)<=(i:Int):=by omega
 have vv:(dw l)[i]? =some (.int .u32 (N32 (l.getD i 0))):=by
  unfold dw;rw[List.getElem?_map,List.getD_eq_getElem?_getD,List.getElem?_eq_getElem (by omega)];rfl
 have hp:∀W,(part 135 (dw l).toArray i).run Tryz.prog W=.ok (.int .u32 (N32 (l.getD i 0))) W:=fun W=>by
  unfold part
  simp[run_isAgg_plain (P:=Tryz.prog) Tryz.underlying135 rfl,vv]
 simp[run_underlying Tryz.underlying288,asIntOf,h0,hp,hi]
theorem V8.open {R:Nat} {s:Lz.St8 UInt32} {w:World} (h:V8 R s w) (k:Nat) (x:UInt32) (hx:s.list[k]? =some x):w.cell? ⟨R,k,none⟩=some (.int .u32 (N32 x))/\w.frozen? ⟨R,k,none⟩=false:=by
 have hr:=rowAt h k (.int .u32 (N32 x)) (by rw[List.getElem?_toArray];unfold dw;rw[List.getElem?_map,hx];rfl);refine⟨hr,?_⟩;unfold V8 at h
 simp[World.frozen?,h]
theorem OF (l:List UInt32) (hl:l.length=8) (i:Nat) (hi:i<8) (w:World):(Instr.index 238 (.agg (dw l).toArray) (.int .i64 (i:Int))).run Tryz.prog w=.ok (.int .u32 (N32 (l.getD i 0))) w:=by
 unfold Instr.index;have h0:(0:Int)<=(i:Int):=by omega
 have vv:(dw l)[i]? =some (.int .u32 (N32 (l.getD i 0))):=by
  unfold dw;rw[List.getElem?_map,List.getD_eq_getElem?_getD,List.getElem?_eq_getElem (by omega)];rfl
 have hp:∀W,(part 135 (dw l).toArray i).run Tryz.prog W=.ok (.int .u32 (N32 (l.getD i 0))) W:=fun W=>by
  unfold part
  simp[run_isAgg_plain (P:=Tryz.prog) Tryz.underlying135 rfl,vv]
 simp[run_underlying Tryz.underlying238,asIntOf,h0,hp,hi]
def K6 (h s:Lz.St8 UInt32) (i:Nat):List UInt32:=(List.range 8).map fun j=>if j<i then h.list.getD j 0+s.list.getD j 0 else h.list.getD j 0
theorem RM (h s:Lz.St8 UInt32) (i:Nat) (hi:i<8):(K6 h s i)[i]? =some (h.list.getD i 0):=by
 obtain rfl|rfl|rfl|rfl|rfl|rfl|rfl|rfl:i=0\/i=1\/i=2\/i=3\/i=4\/i=5\/i=6\/i=7:=by omega
 all_goals rfl
theorem NV (h s:Lz.St8 UInt32) (i:Nat) (hi:i<8):(K6 h s i).set i (h.list.getD i 0+s.list.getD i 0)=K6 h s (i+1):=by
 obtain rfl|rfl|rfl|rfl|rfl|rfl|rfl|rfl:i=0\/i=1\/i=2\/i=3\/i=4\/i=5\/i=6\/i=7:=by omega
 all_goals rfl
theorem Kl (h s:Lz.St8 UInt32):K6 h s 0=h.list:=rfl
theorem Ov (h s:Lz.St8 UInt32):K6 h s 8=(Lz.MJ h s).list:=rfl
def sM (hp:Nat) (h s:Lz.St8 UInt32) (i:Nat) (w:World):Prop:=w.heap[hp]? =some (.cells (dw (K6 h s i)).toArray 238 (0,0))
theorem sM.drew {hp:Nat} {h s:Lz.St8 UInt32} {i:Nat} {w:World} (k:sM hp h s i w):sM hp h s i w.drew:=k
theorem sM.open {hp:Nat} {h s:Lz.St8 UInt32} {i:Nat} {w:World} (k:sM hp h s i w) (hi:i<8) {x:UInt32} (hx:h.list.getD i 0=x):w.cell? ⟨hp,i,none⟩=some (.int .u32 (N32 x))/\w.frozen? ⟨hp,i,none⟩=false:=by
 unfold sM at k;have hr:=rowAt k i (.int .u32 (N32 x)) (by rw[List.getElem?_toArray];unfold dw;rw[List.getElem?_map,RM _ _ _ hi,hx];rfl);exact⟨hr,by simp[World.frozen?,k]⟩
theorem sM.store {hp:Nat} {h s:Lz.St8 UInt32} {i:Nat} {w:World} (k:sM hp h s i w) (hi:i<8) {x y:UInt32} (hx:h.list.getD i 0=x) (hy:s.list.getD i 0=y):sM hp h s (i+1) (w.setCell ⟨hp,i,none⟩ (.int .u32 (N32 (x+y)))):=by
 unfold sM at k⊢;rw[fF k i,<-NV h s i hi,hx,hy];unfold dw;rw[List.setIfInBounds_toArray,List.map_set]
theorem EE {R:Nat} {sa sb sc sd se sf sg sz:UInt32} {w:World} (h:V8 R ⟨sa,sb,sc,sd,se,sf,sg,sz⟩ w) (j:Nat) (v:Value) (hj:(dw [sa,sb,sc,sd,se,sf,sg])[j]? =some v):w.cell? ((⟨R,0,none⟩:Addr).add j)=some v:=by
 have aV:j<(dw [sa,sb,sc,sd,se,sf,sg]).length:=(List.getElem?_eq_some_iff.1 hj).1;have e:(⟨R,0,none⟩:Addr).add j=⟨R,j,none⟩:=by simp[Addr.add,eq_comm]
 rw[e];refine rowAt h j v ?_;rw[List.getElem?_toArray];show(dw [sa,sb,sc,sd,se,sf,sg]++dw [sz])[j]? =some v;rw[List.getElem?_append_left aV];exact hj
theorem NR (bi:List UInt32) (hp B:Nat) (h:Lz.St8 UInt32) (b:ByteArray) (hb:b.size=64) (w:World) (aZ:V8 hp h w) (hB:B<=hp) (hT:G9 bi w):Calls Tryz.prog 185 #[.pointer (some ⟨hp,0,none⟩),.string b] w fun e w'=>e=.returned (.tuple #[])/\Below B w w'/\V8 hp (Lz.lS bi h b.data.toList) w':=by
 have cS:=Ih (fun W=>GU b hb W);have dV:=Ih aZ;have HT:=Ih hT;have Sd:=af aZ;clear aZ hT;go_enter Tryz.func185,Tryz.ntmps185
 go_wp2_with (first |(refine wpList_load_row rfl 238 (.tmp 14) rfl hp rfl 238 _ (0,0) _ dV.out Tryz.underlying238 rfl jt ?_)|(refine wpList_store_row rfl 238 (.tmp 4) (.tmp 15) rfl w.heap.size _ rfl rfl 238 (dw [0,0,0,0,0,0,0,0]).toArray (ah _ _) jt rfl (wE _) ?_))
 have Fr:V8 w.heap.size h ((w.alloc (.cells (dw [0,0,0,0,0,0,0,0]).toArray 238)).setRow w.heap.size (dw h.list).toArray):=setRow_heap _ _ _ _ _ _ (ah _ _);have nQ:Below w.heap.size w ((w.alloc (.cells (dw [0,0,0,0,0,0,0,0]).toArray 238)).setRow w.heap.size (dw h.list).toArray):=aH ((Below.refl _ w).alloc (Nat.le_refl _) _) (Nat.le_refl _);change Calls _ _ _ ((w.alloc (.cells (dw [0,0,0,0,0,0,0,0]).toArray 238)).setRow w.heap.size (dw h.list).toArray) _;generalize ((w.alloc (.cells (dw [0,0,0,0,0,0,0,0]).toArray 238)).setRow w.heap.size (dw h.list).toArray)=W1 at Fr nQ⊢;refine(cS.out W1).mono ?_;rintro e w5 ⟨rfl,aI⟩;have TF:V8 w.heap.size h w5:=by unfold V8;rw[aI.block _ (af Fr)];exact Fr
 have Yh:Below w.heap.size w w5:=nQ.trans (aI.mono nQ.size);clear Fr nQ aI;have zk:=Ih (fun(i:Nat) (hi:i<64) W=>Rt (Lz.bX b.data.toList 64) (Lz.du _ _) i hi W);obtain⟨L,hL⟩:∃L,L=Lz.bX b.data.toList 64:=⟨_,rfl⟩;rw[<-hL]at zk⊢;obtain⟨A,hA⟩:∃A,A=(dw L).toArray:=⟨_,rfl⟩;rw[<-hA]at zk⊢;clear hA cS
 go_wp2_with fail
 go_loopw [5,6,7,8,9,10,18] (fun _ _ _ _ _ _ k wr=>∃i:Nat,k=.int .i64 i/\i<=64/\V8 w.heap.size (Lz.iF bi b.data.toList h i) wr/\Below w.heap.size w wr) (fun _ _ _ _ _ _ k _=>64-(intOf k).toNat)
 case atStart=>exact⟨0,rfl,by omega,TF,Yh⟩
 case round=>
  obtain⟨i,rfl,hi,h8,aK⟩:=hrel;by_cases aV:i<64
  ·have bW:(i:Int)<64:=by omega
   have o9:(0:Int)<=(i:Int)/\(i:Int)<64:=by omega
   have yr:=zk.out i aV;obtain⟨s,hs⟩:∃s,s=Lz.iF bi b.data.toList h i:=⟨_,rfl⟩;obtain⟨ki,oW⟩:∃k,k=bi.getD i 0:=⟨_,rfl⟩;obtain⟨xi,JI⟩:∃k,k=L.getD i 0:=⟨_,rfl⟩
   have HX:Hid (Lz.iF bi b.data.toList h (i+1)=Lz.S6 s ki xi):=by
    show _=_;rw[Lz.iF,<-hs,<-hL,<-oW,<-JI]
   rw[<-hs]at h8;rw[<-JI]at yr;have vN:=(HT.out.2 i aV);rw[<-oW]at vN;have hTl:=HT.out.1;clear hs oW JI;obtain⟨sa,sb,sc,sd,se,sf,sg,sz⟩:=s;have hC:Hid (∀V,V8 w.heap.size ⟨sa,sb,sc,sd,se,sf,sg,sz⟩ V->Below w.heap.size w V->((V.cell? ⟨w.heap.size,0,none⟩=some (.int .u32 (N32 sa))/\V.cell? ⟨w.heap.size,1,none⟩=some (.int .u32 (N32 sb))/\V.cell? ⟨w.heap.size,2,none⟩=some (.int .u32 (N32 sc))/\V.cell? ⟨w.heap.size,3,none⟩=some (.int .u32 (N32 sd))/\V.cell? ⟨w.heap.size,4,none⟩=some (.int .u32 (N32 se))/\V.cell? ⟨w.heap.size,5,none⟩=some (.int .u32 (N32 sf))/\V.cell? ⟨w.heap.size,6,none⟩=some (.int .u32 (N32 sg))/\V.cell? ⟨w.heap.size,7,none⟩=some (.int .u32 (N32 sz)))/\V.cell? ⟨9,i,none⟩=some (.int .u32 (N32 ki)))/\V8 w.heap.size ⟨sa,sb,sc,sd,se,sf,sg,sz⟩ V/\Below w.heap.size w V):=Ih (fun V hV hb=>⟨⟨⟨rowAt hV 0 _ rfl,rowAt hV 1 _ rfl,rowAt hV 2 _ rfl,rowAt hV 3 _ rfl,rowAt hV 4 _ rfl,rowAt hV 5 _ rfl,rowAt hV 6 _ rfl,rowAt hV 7 _ rfl⟩,by rw[hb.cell hTl];exact vN⟩,hV,hb⟩);have k6:Hid (∀W,Calls Tryz.prog 224 #[.int .u32 (N32 se),.int .i64 6] W fun e w'=>e=.returned (.int .u32 (N32 (Lz.dt se 6)))/\W=w'):=Ih (fun W=>gQ se 6 (by omega) (by omega) W)
   have k11:Hid (∀W,Calls Tryz.prog 224 #[.int .u32 (N32 se),.int .i64 11] W fun e w'=>e=.returned (.int .u32 (N32 (Lz.dt se 11)))/\W=w'):=Ih (fun W=>gQ se 11 (by omega) (by omega) W);have k25:Hid (∀W,Calls Tryz.prog 224 #[.int .u32 (N32 se),.int .i64 25] W fun e w'=>e=.returned (.int .u32 (N32 (Lz.dt se 25)))/\W=w'):=Ih (fun W=>gQ se 25 (by omega) (by omega) W);have k2:Hid (∀W,Calls Tryz.prog 224 #[.int .u32 (N32 sa),.int .i64 2] W fun e w'=>e=.returned (.int .u32 (N32 (Lz.dt sa 2)))/\W=w'):=Ih (fun W=>gQ sa 2 (by omega) (by omega) W);have k13:Hid (∀W,Calls Tryz.prog 224 #[.int .u32 (N32 sa),.int .i64 13] W fun e w'=>e=.returned (.int .u32 (N32 (Lz.dt sa 13)))/\W=w'):=Ih (fun W=>gQ sa 13 (by omega) (by omega) W);have k22:Hid (∀W,Calls Tryz.prog 224 #[.int .u32 (N32 sa),.int .i64 22] W fun e w'=>e=.returned (.int .u32 (N32 (Lz.dt sa 22)))/\W=w'):=Ih (fun W=>gQ sa 22 (by omega) (by omega) W);have fx:=YP;have fp:=Vu;have fa:=abl;have fn:∀a,bits .xor .u32 (if IntKind.u32.signed=true then -1 else IntKind.u32.max) (N32 a)=N32 (~~~a):=abt;clear vN hTl hi
   go_upto_region 4 with fail
   refine wp_region_held_drew (S:=fun V=>((V.cell? ⟨w.heap.size,0,none⟩=some (.int .u32 (N32 sa))/\V.cell? ⟨w.heap.size,1,none⟩=some (.int .u32 (N32 sb))/\V.cell? ⟨w.heap.size,2,none⟩=some (.int .u32 (N32 sc))/\V.cell? ⟨w.heap.size,3,none⟩=some (.int .u32 (N32 sd))/\V.cell? ⟨w.heap.size,4,none⟩=some (.int .u32 (N32 se))/\V.cell? ⟨w.heap.size,5,none⟩=some (.int .u32 (N32 sf))/\V.cell? ⟨w.heap.size,6,none⟩=some (.int .u32 (N32 sg))/\V.cell? ⟨w.heap.size,7,none⟩=some (.int .u32 (N32 sz)))/\V.cell? ⟨9,i,none⟩=some (.int .u32 (N32 ki)))/\V8 w.heap.size ⟨sa,sb,sc,sd,se,sf,sg,sz⟩ V/\Below w.heap.size w V) (by kernel_rfl) (hC.out _ h8.drew aK.drew) (fun ae=>?_);generalize wr.drew=W4 at ae⊢;apply TkG 0 22;apply TkG 1 23;apply TkG 2 24;apply TkG 3 25;apply TkG 4 7;apply TkG 5 8
   iterate 6 (rotate_right 2;(·(intro W aM;(try dsimp only at aM);(try simp only[Act.put]);(try simp only[List.setIfInBounds_toArray]);(try simp only[List.set_cons_zero,List.set_cons_succ]);go_simp;try with_reducible rfl)))
   (try simp only[Act.put]);(try simp only[List.setIfInBounds_toArray]);(try simp only[List.set_cons_zero,List.set_cons_succ])
   refine wpAnyH_done (by kernel_rfl) ?_ _;obtain⟨h8,aK⟩:=ae.2;clear ae
   go_upto_region 5 with fail
   refine wp_region_held_drew (S:=fun V=>((V.cell? ⟨w.heap.size,0,none⟩=some (.int .u32 (N32 sa))/\V.cell? ⟨w.heap.size,1,none⟩=some (.int .u32 (N32 sb))/\V.cell? ⟨w.heap.size,2,none⟩=some (.int .u32 (N32 sc))/\V.cell? ⟨w.heap.size,3,none⟩=some (.int .u32 (N32 sd))/\V.cell? ⟨w.heap.size,4,none⟩=some (.int .u32 (N32 se))/\V.cell? ⟨w.heap.size,5,none⟩=some (.int .u32 (N32 sf))/\V.cell? ⟨w.heap.size,6,none⟩=some (.int .u32 (N32 sg))/\V.cell? ⟨w.heap.size,7,none⟩=some (.int .u32 (N32 sz)))/\V.cell? ⟨9,i,none⟩=some (.int .u32 (N32 ki)))/\V8 w.heap.size ⟨sa,sb,sc,sd,se,sf,sg,sz⟩ V/\Below w.heap.size w V) (by kernel_rfl) (hC.out _ h8.drew aK.drew) (fun ae=>?_);generalize W4.drew=W5 at ae⊢;apply TkG 0 26;apply TkG 1 27;apply TkG 2 28;apply TkG 4 30;apply TkG 7 33;apply TkG 11 37;apply TkG 12 38;apply TkG 13 39
   apply TkG 14 40;apply TkG 15 41;apply TkG 16 42;apply TkG 17 43;apply TkG 18 44;apply TkG 19 45;apply TkG 20 46;apply TkG 22 48;apply TkG 23 49;apply TkG 24 50;apply TkG 26 52
   iterate 19 (rotate_right 2;(·(intro W aM;(try dsimp only at aM);(try simp only[Act.put]);(try simp only[List.setIfInBounds_toArray]);(try simp only[List.set_cons_zero,List.set_cons_succ]);go_simp;try with_reducible rfl)))
   (try simp only[Act.put]);(try simp only[List.setIfInBounds_toArray]);(try simp only[List.set_cons_zero,List.set_cons_succ])
   refine wpAnyH_ready (rs:=[3]) (by kernel_rfl) (by simp) ?_;refine AllReadyH.cons rfl (fun K hK=>?_) AllReadyH.nil;go_simp
   go_at_call 224
   refine(k6.out _).mono ?_;rintro e w5 ⟨rfl,rfl⟩;refine hK.out _ _ ae (fun ae=>?_);clear hK K
   (try simp only[Act.put]);(try simp only[List.setIfInBounds_toArray]);(try simp only[List.set_cons_zero,List.set_cons_succ])
   refine wpAnyH_ready (rs:=[5]) (by kernel_rfl) (by simp) ?_;refine AllReadyH.cons rfl (fun K hK=>?_) AllReadyH.nil;go_simp
   go_at_call 224
   refine(k11.out _).mono ?_;rintro e w5 ⟨rfl,rfl⟩;refine hK.out _ _ ae (fun ae=>?_);clear hK K
   (try simp only[Act.put]);(try simp only[List.setIfInBounds_toArray]);(try simp only[List.set_cons_zero,List.set_cons_succ])
   apply TkG 6 32
   iterate 1 (rotate_right 2;(·(intro W aM;(try dsimp only at aM);(try simp only[Act.put]);(try simp only[List.setIfInBounds_toArray]);(try simp only[List.set_cons_zero,List.set_cons_succ]);go_simp;try with_reducible rfl)))
   (try simp only[Act.put]);(try simp only[List.setIfInBounds_toArray]);(try simp only[List.set_cons_zero,List.set_cons_succ])
   refine wpAnyH_ready (rs:=[8]) (by kernel_rfl) (by simp) ?_;refine AllReadyH.cons rfl (fun K hK=>?_) AllReadyH.nil;go_simp
   go_at_call 224
   refine(k25.out _).mono ?_;rintro e w5 ⟨rfl,rfl⟩;refine hK.out _ _ ae (fun ae=>?_);clear hK K
   (try simp only[Act.put]);(try simp only[List.setIfInBounds_toArray]);(try simp only[List.set_cons_zero,List.set_cons_succ])
   apply TkG 9 35;apply TkG 10 36;apply TkG 21 47;apply TkG 25 51;apply TkG 27 53;apply TkG 28 9
   iterate 6 (rotate_right 2;(·(intro W aM;(try dsimp only at aM);(try simp only[Act.put]);(try simp only[List.setIfInBounds_toArray]);(try simp only[List.set_cons_zero,List.set_cons_succ]);go_simp;try with_reducible rfl)))
   (try simp only[Act.put]);(try simp only[List.setIfInBounds_toArray]);(try simp only[List.set_cons_zero,List.set_cons_succ])
   refine wpAnyH_done (by kernel_rfl) ?_ _;obtain⟨h8,aK⟩:=ae.2;clear ae
   go_upto_region 6 with fail
   refine wp_region_held_drew (S:=fun V=>((V.cell? ⟨w.heap.size,0,none⟩=some (.int .u32 (N32 sa))/\V.cell? ⟨w.heap.size,1,none⟩=some (.int .u32 (N32 sb))/\V.cell? ⟨w.heap.size,2,none⟩=some (.int .u32 (N32 sc))/\V.cell? ⟨w.heap.size,3,none⟩=some (.int .u32 (N32 sd))/\V.cell? ⟨w.heap.size,4,none⟩=some (.int .u32 (N32 se))/\V.cell? ⟨w.heap.size,5,none⟩=some (.int .u32 (N32 sf))/\V.cell? ⟨w.heap.size,6,none⟩=some (.int .u32 (N32 sg))/\V.cell? ⟨w.heap.size,7,none⟩=some (.int .u32 (N32 sz)))/\V.cell? ⟨9,i,none⟩=some (.int .u32 (N32 ki)))/\V8 w.heap.size ⟨sa,sb,sc,sd,se,sf,sg,sz⟩ V/\Below w.heap.size w V) (by kernel_rfl) (hC.out _ h8.drew aK.drew) (fun ae=>?_);generalize W5.drew=W6 at ae⊢;apply TkG 0 54;apply TkG 2 56;apply TkG 5 59;apply TkG 8 62;apply TkG 9 63;apply TkG 10 64;apply TkG 11 65;apply TkG 12 66
   apply TkG 13 67;apply TkG 14 68;apply TkG 15 69;apply TkG 16 70;apply TkG 17 71;apply TkG 18 72;apply TkG 19 73;apply TkG 20 74;apply TkG 21 75;apply TkG 22 76
   iterate 18 (rotate_right 2;(·(intro W aM;(try dsimp only at aM);(try simp only[Act.put]);(try simp only[List.setIfInBounds_toArray]);(try simp only[List.set_cons_zero,List.set_cons_succ]);go_simp;try with_reducible rfl)))
   (try simp only[Act.put]);(try simp only[List.setIfInBounds_toArray]);(try simp only[List.set_cons_zero,List.set_cons_succ])
   refine wpAnyH_ready (rs:=[1]) (by kernel_rfl) (by simp) ?_;refine AllReadyH.cons rfl (fun K hK=>?_) AllReadyH.nil;go_simp
   go_at_call 224
   refine(k2.out _).mono ?_;rintro e w5 ⟨rfl,rfl⟩;refine hK.out _ _ ae (fun ae=>?_);clear hK K
   (try simp only[Act.put]);(try simp only[List.setIfInBounds_toArray]);(try simp only[List.set_cons_zero,List.set_cons_succ])
   refine wpAnyH_ready (rs:=[3]) (by kernel_rfl) (by simp) ?_;refine AllReadyH.cons rfl (fun K hK=>?_) AllReadyH.nil;go_simp
   go_at_call 224
   refine(k13.out _).mono ?_;rintro e w5 ⟨rfl,rfl⟩;refine hK.out _ _ ae (fun ae=>?_);clear hK K
   (try simp only[Act.put]);(try simp only[List.setIfInBounds_toArray]);(try simp only[List.set_cons_zero,List.set_cons_succ])
   apply TkG 4 58
   iterate 1 (rotate_right 2;(·(intro W aM;(try dsimp only at aM);(try simp only[Act.put]);(try simp only[List.setIfInBounds_toArray]);(try simp only[List.set_cons_zero,List.set_cons_succ]);go_simp;try with_reducible rfl)))
   (try simp only[Act.put]);(try simp only[List.setIfInBounds_toArray]);(try simp only[List.set_cons_zero,List.set_cons_succ])
   refine wpAnyH_ready (rs:=[6]) (by kernel_rfl) (by simp) ?_;refine AllReadyH.cons rfl (fun K hK=>?_) AllReadyH.nil;go_simp
   go_at_call 224
   refine(k22.out _).mono ?_;rintro e w5 ⟨rfl,rfl⟩;refine hK.out _ _ ae (fun ae=>?_);clear hK K
   (try simp only[Act.put]);(try simp only[List.setIfInBounds_toArray]);(try simp only[List.set_cons_zero,List.set_cons_succ])
   apply TkG 7 61;apply TkG 23 77;apply TkG 24 10
   iterate 3 (rotate_right 2;(·(intro W aM;(try dsimp only at aM);(try simp only[Act.put]);(try simp only[List.setIfInBounds_toArray]);(try simp only[List.set_cons_zero,List.set_cons_succ]);go_simp;try with_reducible rfl)))
   (try simp only[Act.put]);(try simp only[List.setIfInBounds_toArray]);(try simp only[List.set_cons_zero,List.set_cons_succ])
   refine wpAnyH_done (by kernel_rfl) ?_ _;obtain⟨h8,aK⟩:=ae.2;clear ae
   go_upto_region 7 with fail
   have pG:=h8.drew;refine wp_region_held_drew (S:=fun V=>Below w.heap.size w V) (by kernel_rfl) aK.drew (fun ae=>?_);generalize W6.drew=W7 at ae pG⊢;apply TkG 0 78;apply TkG 1 79
   iterate 2 (rotate_right 2;(·(intro W aM;(try dsimp only at aM);(try simp only[Act.put]);(try simp only[List.setIfInBounds_toArray]);(try simp only[List.set_cons_zero,List.set_cons_succ]);go_simp;try with_reducible rfl)))
   (try simp only[Act.put]);(try simp only[List.setIfInBounds_toArray]);(try simp only[List.set_cons_zero,List.set_cons_succ])
   refine wpAnyH_ready (rs:=[2]) (by kernel_rfl) (by simp) ?_;refine AllReadyH.cons rfl (fun K hK=>?_) AllReadyH.nil;refine step_copy_splice rfl (.tmp 78) (.tmp 79) 291 291 rfl 135 Tryz.underlying291 ML (some ⟨w.heap.size,1,none⟩) (some ⟨w.heap.size,0,none⟩) 7 7 7 8 rfl rfl w.heap.size 1 (dw [sa,sb,sc,sd,se,sf,sg,sz]) 238 pG (dw [sa,sb,sc,sd,se,sf,sg]) rfl (fun _=>⟨rfl,_,rfl,EE pG⟩) (Nat.le_refl _) (KI _) w.heap.size w ae (Nat.le_refl _) ?_;intro w7 hg7 kJ;refine hK.out _ _ kJ (fun ae=>?_);clear hK K
   (try simp only[Act.put]);(try simp only[List.setIfInBounds_toArray]);(try simp only[List.set_cons_zero,List.set_cons_succ])
   have h8:V8 w.heap.size ⟨sa,sa,sb,sc,sd,se,sf,sg⟩ w7:=hg7.out;clear hg7 kJ pG;refine wpAnyH_done (by kernel_rfl) ?_ _;obtain⟨c4,f4⟩:=h8.open 4 sd rfl;obtain⟨t,ht⟩:∃t,t=(((sz+((Lz.dt se 6 ^^^ Lz.dt se 11) ^^^ Lz.dt se 25))+((se&&& sf) ^^^ ((~~~se)&&& sg)))+ki)+xi:=⟨_,rfl⟩;obtain⟨y,hy⟩:∃y,y=((Lz.dt sa 2 ^^^ Lz.dt sa 13) ^^^ Lz.dt sa 22)+(((sa&&& sb) ^^^ (sa&&& sc)) ^^^ (sb&&& sc)):=⟨_,rfl⟩;rw[<-ht,<-hy]
   have XW:Hid (Lz.iF bi b.data.toList h (i+1)=⟨t+y,sa,sb,sc,sd+t,se,sf,sg⟩):=by
    show _=_;rw[HX.out,ht,hy];rfl
   clear ht hy HX k6 k11 k25 k2 k13 k22
   go_upto_region 9 with fail
   have h9:V8 w.heap.size ⟨sa,sa,sb,sc,sd+t,se,sf,sg⟩ (w7.setCell ⟨w.heap.size,4,none⟩ (.int .u32 (N32 (sd+t)))):=fF h8 4 _;have b9:Below w.heap.size w (w7.setCell ⟨w.heap.size,4,none⟩ (.int .u32 (N32 (sd+t)))):=ae.setCell (Nat.le_refl _) _;generalize w7.setCell ⟨w.heap.size,4,none⟩ (.int .u32 (N32 (sd+t)))=w9 at h9 b9⊢;clear c4 f4 ae h8;obtain⟨c0,f0⟩:=h9.open 0 sa rfl
   go_wp2_with fail
   have Me:V8 w.heap.size ⟨t+y,sa,sb,sc,sd+t,se,sf,sg⟩ (w9.setCell ⟨w.heap.size,0,none⟩ (.int .u32 (N32 (t+y)))):=fF h9 0 _;have b10:Below w.heap.size w (w9.setCell ⟨w.heap.size,0,none⟩ (.int .u32 (N32 (t+y)))):=b9.setCell (Nat.le_refl _) _
   go_roundw
   case rel=>exact⟨i+1,by go_num,by omega,by rw[XW.out];exact Me,b10⟩
   case measure=>simp[intOf];omega
  ·have Wz:i=64:=by omega
   subst Wz;have bW:¬(((64:Nat):Int)<64):=by omega
   go_wp2_with (first |(refine wpList_load_row rfl 238 (.tmp 4) rfl w.heap.size rfl 238 _ (0,0) _ h8 Tryz.underlying238 rfl jt ?_))
   have X5:sM hp h (Lz.iF bi b.data.toList h 64) 0 wr:=by
    unfold sM;rw[Kl,aK.block _ Sd];exact dV.out
   have az:Below B w wr:=aK.mono (by omega);clear h8 aK;obtain⟨s,hs⟩:∃s,s=Lz.iF bi b.data.toList h 64:=⟨_,rfl⟩;have HE:Hid (Lz.lS bi h b.data.toList=Lz.MJ h s):=by show _=_;rw[hs];rfl
   rw[<-hs]at X5⊢;clear hs;have uJ:=Ih (fun(i:Nat) (hi:i<8) W=>OF s.list rfl i hi W);obtain⟨A8,TT⟩:∃A,A=(dw s.list).toArray:=⟨_,rfl⟩;rw[<-TT]at uJ⊢;clear TT
   go_loopw [11,12,92] (fun _ _ k wr=>∃i:Nat,k=.int .i64 i/\i<=8/\sM hp h s i wr/\Below B w wr) (fun _ _ k _=>8-(intOf k).toNat)
   case atStart=>exact⟨0,rfl,by omega,X5,az⟩
   case round=>
    obtain⟨i,rfl,hi,hA,aK⟩:=hrel;by_cases aV:i<8
    ·have bW:(i:Int)<8:=by omega
     have o9:(0:Int)<=(i:Int)/\(i:Int)<8:=by omega
     have yr:=uJ.out i aV;obtain⟨x,hx⟩:∃x,h.list.getD i 0=x:=⟨_,rfl⟩;obtain⟨y,hy⟩:∃y,s.list.getD i 0=y:=⟨_,rfl⟩;rw[hy]at yr;have fp:=Vu;have Hx:=Ih hx;have Hy:=Ih hy;clear hy
     go_upto_region 14 with fail
     have Fy:=hA.drew;refine wp_region_held_drew (S:=fun V=>Below B w V) (by kernel_rfl) aK.drew (fun ae=>?_);generalize wr.drew=W1 at ae Fy⊢;obtain⟨bc,lX⟩:=Fy.open aV hx;apply TkG 0 96;apply TkG 1 97;apply TkG 2 98;apply TkG 3 99;apply TkG 5 101;apply TkG 7 103
     iterate 6 (rotate_right 2;(·(intro W aM;(try dsimp only at aM);(try simp only[Act.put]);(try simp only[List.setIfInBounds_toArray]);(try simp only[List.set_cons_zero,List.set_cons_succ]);go_simp;try with_reducible rfl)))
     (try simp only[Act.put]);(try simp only[List.setIfInBounds_toArray]);(try simp only[List.set_cons_zero,List.set_cons_succ])
     refine wpAnyH_ready (rs:=[4]) (by kernel_rfl) (by simp) ?_;refine AllReadyH.cons rfl (fun K hK=>?_) AllReadyH.nil;go_simp;refine hK.out _ _ ae (fun ae=>?_);clear hK K
     (try simp only[Act.put]);(try simp only[List.setIfInBounds_toArray]);(try simp only[List.set_cons_zero,List.set_cons_succ])
     apply TkG 6 102;apply TkG 8 104
     iterate 2 (rotate_right 2;(·(intro W aM;(try dsimp only at aM);(try simp only[Act.put]);(try simp only[List.setIfInBounds_toArray]);(try simp only[List.set_cons_zero,List.set_cons_succ]);go_simp;try with_reducible rfl)))
     (try simp only[Act.put]);(try simp only[List.setIfInBounds_toArray]);(try simp only[List.set_cons_zero,List.set_cons_succ])
     refine wpAnyH_ready (rs:=[9]) (by kernel_rfl) (by simp) ?_;refine AllReadyH.cons rfl (fun K hK=>?_) AllReadyH.nil;go_simp;refine hK.out _ _ (ae.setCell hB _) (fun ae=>?_);clear hK K
     (try simp only[Act.put]);(try simp only[List.setIfInBounds_toArray]);(try simp only[List.set_cons_zero,List.set_cons_succ])
     refine wpAnyH_done (by kernel_rfl) ?_ _;have hS:=Fy.store aV Hx.out Hy.out;clear Fy bc lX
     go_wp2_with fail
     go_roundw
     case rel=>exact⟨i+1,by go_num,by omega,hS,ae⟩
     case measure=>simp[intOf];omega
    ·have Sv:i=8:=by omega
     subst Sv;have bW:¬(((8:Nat):Int)<8):=by omega
     go_wp2_with fail
     go_end0
     refine⟨rfl,aK,?_⟩;unfold V8;rw[HE.out,<-Ov];exact hA
def oK (n i:Nat):List UInt8:=(List.range i).map fun i=>UInt8.ofNat (n*8 / 2^(56-8*i))
theorem zz (n i:Nat):oK n (i+1)=oK n i++[UInt8.ofNat (n*8 / 2^(56-8*i))]:=by
 unfold oK;rw[List.range_succ,List.map_append];rfl
theorem Zv (m:Nat) (hm:m<=1048576) (w:World):(Instr.makeSlice 75 (.int .i64 (m:Int)) (.int .i64 (m:Int))).run Tryz.prog w=.ok (.slice (some ⟨w.heap.size,0,none⟩) m m) (w.alloc (.cells (Array.replicate m (.int .u8 0)) 5)):=by
 obtain⟨i0,hi,fI,ei,eM⟩:=info_parts Tryz.infoU8;have h:=run_makeSlice (P:=Tryz.prog) w 75 5 i0 (.int .u8 0) Tryz.underlying75 hi fI .i64 .i64 (m:Int) (m:Int) (by omega) (Int.le_refl _) (by rw[ei];simp;omega) (by rw[eM];omega) (by omega);have e:madeCells #[Value.int .u8 0] m=Array.replicate m (Value.int .u8 0):=by rw[<-Array.toList_inj,toList_madeCells_one,Array.toList_replicate]
 rw[ei,Int.toNat_natCast,Nat.mul_one]at h;rw[<-e];exact h
theorem Q6 (n:Nat) (hn:n<140737488355328) (w:World):Calls Tryz.prog 186 #[.int .i64 (n:Int)] w fun e w'=>e=.returned (.string ⟨(Lz.xl n).toArray⟩)/\Below w.heap.size w w':=by
 obtain⟨i0,o9,fI,ei,eM⟩:=info_parts Tryz.infoU8;obtain⟨m,hm⟩:∃m,m=64-(n+8)%64:=⟨_,rfl⟩;have jT:1<=m:=by omega
 have jy:m<=64:=by omega
 have lp:=Zv m (by omega);have f1:IntKind.i64.wrap ((n:Int)+8)=(n:Int)+8:=IntWalk.i64_in _ (by omega);have f2:64-((n:Int)+8)%64=(m:Int):=by omega
 have HL:Hid (Lz.xl n=(128::List.replicate (m-1) 0)++oK n 8):=by
  show _=_;unfold Lz.xl Lz.OE oK;rw[show m-1=63-(n+8)%64 by omega]
 clear hm
 have qP:(w.alloc (.cells (Array.replicate m (.int .u8 0)) 5)).cell? ⟨w.heap.size,0,none⟩=some (.int .u8 0):=by
  refine rowAt (ah _ _) 0 _ ?_;rw[Array.getElem?_replicate,if_pos (by omega)]
 have tL:(w.alloc (.cells (Array.replicate m (.int .u8 0)) 5)).frozen? ⟨w.heap.size,0,none⟩=false:=by
  have h:=ah w (.cells (Array.replicate m (.int .u8 0)) 5);exact frozen_of_row _ _ _ _ _ h
 go_enter Tryz.func186,Tryz.ntmps186
 go_wp2_with fail
 have r7:(w.alloc (.cells ((Array.replicate m (.int .u8 0)).setIfInBounds 0 (.int .u8 128)) 5)).ownsRow w.heap.size 5 1 (.slice (some ⟨w.heap.size,0,none⟩) m m) (m+0) (u8s ((128::List.replicate (m-1) 0)++oK n 0)):=by
  have h:=World.ownsRow_lit (base:=w.heap.size) (e:=5) (size:=1) w ((Array.replicate m (.int .u8 0)).setIfInBounds 0 (.int .u8 128)) m (Nat.le_refl _) (by unfold maxLen;omega) (by simp)
  have e:((Array.replicate m (Value.int .u8 0)).setIfInBounds 0 (.int .u8 128)).toList=u8s ((128::List.replicate (m-1) 0)++oK n 0):=by
   rw[Array.toList_setIfInBounds,Array.toList_replicate];obtain⟨k,rfl⟩:∃k,m=k+1:=⟨m-1,by omega⟩;rw[List.replicate_succ,List.set_cons_zero,Nat.add_sub_cancel]
   simp[u8s,oK]
  rwa [e]at h
 have ku:Below w.heap.size w (w.alloc (.cells ((Array.replicate m (.int .u8 0)).setIfInBounds 0 (.int .u8 128)) 5)):=(Below.refl _ w).alloc (Nat.le_refl _) _;generalize w.alloc (.cells ((Array.replicate m (.int .u8 0)).setIfInBounds 0 (.int .u8 128)) 5)=W1 at r7 ku⊢;clear qP tL lp f1 f2;obtain⟨pre,lT⟩:∃p:List UInt8,p=128::List.replicate (m-1) 0:=⟨_,rfl⟩;rw[<-lT]at HL r7;clear lT
 go_loopw [3,4,12] (fun v _ k wr=>∃i:Nat,k=.int .i64 i/\i<=8/\wr.ownsRow w.heap.size 5 1 v (m+i) (u8s (pre++oK n i))/\Below w.heap.size w wr) (fun _ _ k _=>8-(intOf k).toNat)
 case atStart=>exact⟨0,rfl,by omega,r7,ku⟩
 case round=>
  obtain⟨i,rfl,hi,au,hb⟩:=hrel;have ew:=Ih au;have ju:=hb.size;clear au;by_cases aV:i<8
  ·have gM:Hid (u8s (pre++oK n i)++[.int .u8 ((n:Int)*8 / 2^(56-8*i)%256)]=u8s (pre++oK n (i+1))):=by
    show _=_;rw[zz,<-List.append_assoc,<-DH,UInt8.toNat_ofNat'];congr 3
   go_wp2_with (at_builtin;refine wpList_append_own _ rfl (.tmp 15) (.tmp 24) 75 rfl w.heap.size 5 i0 (.int .u8 0) 1 1 Tryz.underlying75 o9 fI ei eM rfl (by decide) _ _ _ rfl (ew.out.alloc _) ⟨wr.heap.size,0,none⟩ 1 1 [.int .u8 ((n:Int)*8 / 2^(56-8*i)%256)] rfl rfl (bD _ _ _) (by simp[Value.oneCell']) (by unfold maxLen;omega) (by omega) (by simp;omega) ?_)
   intro v' w1 bf cp _;have ar:=Below.grown1 hb ew.out cp ju (Nat.le_refl _);rw[gM.out]at bf;have gV:=Ih bf;clear bf cp gM hb
   go_wp2
   go_roundw
   case rel=>exact⟨i+1,by go_num,by omega,gV.out,ar⟩
   case measure=>simp[intOf];omega
  ·obtain rfl:i=8:=by omega
   have pJ:=rc ew.out;rw[<-HL.out]at pJ;clear ew
   go_wp2
   go_ret;exact⟨rfl,hb⟩
def eH:Lz.St8 UInt32:=⟨0x6a09e667,0xbb67ae85,0x3c6ef372,0xa54ff53a,0x510e527f,0x9b05688c,0x1f83d9ab,0x5be0cd19⟩
theorem Lk:(#[.int .u32 1779033703,.int .u32 3144134277,.int .u32 1013904242,.int .u32 2773480762,.int .u32 1359893119,.int .u32 2600822924,.int .u32 528734635,.int .u32 1541459225]:Array Value)=(dw eH.list).toArray:=by kernel_rfl
theorem KE (w:World):Calls Tryz.prog 184 #[] w fun e w'=>e=.returned (.agg (dw eH.list).toArray)/\Below w.heap.size w w':=by
 go_enter Tryz.func184,Tryz.ntmps184
 go_wp2_with fail
 rw[Lk];refine bodyPost_ret (results_cell_row (P:=Tryz.prog) (p:=0) rfl _ _ w.heap.size 238 _ (0,0) _ rfl (ah _ _) Tryz.underlying238 rfl (by exact jt)) rfl ?_;exact⟨rfl,(Below.refl _ w).alloc (Nat.le_refl _) _⟩
theorem lD {α:Type} (f:α->List UInt8->α) (size:Nat):∀(n:Nat) (h:α) (l:List UInt8),Lz.fO f size (n+1) h l=f (Lz.fO f size n h l) ((l.drop (size*n)).take size)
 | 0,h,l=>rfl
 | n+1,h,l=>by
   rw[Lz.fO,lD f size n,Lz.fO,List.drop_drop,Nat.mul_succ,Nat.add_comm size]
theorem V8.keep {R:Nat} {h:Lz.St8 UInt32} {w w':World} (k:V8 R h w) (hb:Below w.heap.size w w'):V8 R h w':=by
 have hl:=af k;unfold V8 at k⊢;rw[hb.block _ hl];exact k
theorem oQ {s:ByteArray} (h:s.size=0):s.toList.isEmpty=true:=by
 rw[Lib.toList_data,List.isEmpty_iff,<-List.length_eq_zero_iff,aa,h]
theorem qK {s:ByteArray} (h:0<s.size):s.toList.isEmpty=false:=by
 rw[Lib.toList_data];cases hl:s.data.toList with
 | nil=>rw[<-aa,hl]at h;simp at h
 | cons _ _=>rfl
theorem mC (w:World) (l:List Value) (T:TypeId) (j:Nat) (u:Value) (h:l[j]? =some u):(w.alloc (.cells l.toArray T)).cell? ((⟨w.heap.size,0,none⟩:Addr).add j)=some u:=by
 rw[bV,World.cell?_alloc_mark];simpa using h
theorem QT (y:UInt32):N32 y%256=(y.toUInt8.toNat:Int):=by unfold N32;rw[UInt32.toNat_toUInt8];omega
theorem abd (x:UInt32):([.int .u8 (N32 x / 16777216%256),.int .u8 (N32 x / 65536%256),.int .u8 (N32 x / 256%256),.int .u8 (N32 x%256)]:List Value)=u8s (Lz.pd x):=by
 rw[show(16777216:Int)=2^24 by decide,show(65536:Int)=2^16 by decide,Lm x 24 (by omega),Lm x 16 (by omega)];rw[show N32 x / 256=N32 x / 2^8 by rfl,Lm x 8 (by omega),QT,QT,QT,QT];rfl
theorem G9.keep {bi:List UInt32} {w w':World} (h:G9 bi w) (hb:Below w.heap.size w w'):G9 bi w':=⟨Nat.lt_of_lt_of_le h.1 hb.size,fun i hi=>by rw[hb.cell h.1];exact h.2 i hi⟩
theorem QP (bi:List UInt32) (s:ByteArray) (hs:s.size<=1073741824) (w:World) (hT:G9 bi w):Calls Tryz.prog 147 #[.string s] w fun e w'=>e=.returned (.string ⟨(Lz.tX bi eH s.data.toList).toArray⟩)/\Below w.heap.size w w':=by
 obtain⟨i0,o9,fI,ei,eM⟩:=info_parts Tryz.infoU8;have cT:=Ih (fun hp B h b hb W aZ hB hT=>NR bi hp B h b hb W aZ hB hT);have HT:=Ih hT;clear hT;go_enter Tryz.func147,Tryz.ntmps147
 go_wp2_with fail
 refine(KE _).mono ?_;rintro e w1 ⟨rfl,ar⟩;have aU:=ar.size
 go_wp2_with (first |(refine wpList_store_row rfl 238 (.tmp 3) (.tmp 10) rfl w1.heap.size _ rfl rfl 238 (dw [0,0,0,0,0,0,0,0]).toArray (ah _ _) jt rfl (wE _) ?_))
 have Fr:V8 w1.heap.size eH ((w1.alloc (.cells (dw [0,0,0,0,0,0,0,0]).toArray 238)).setRow w1.heap.size (dw eH.list).toArray):=setRow_heap _ _ _ _ _ _ (ah _ _);have nQ:Below w.heap.size w ((w1.alloc (.cells (dw [0,0,0,0,0,0,0,0]).toArray 238)).setRow w1.heap.size (dw eH.list).toArray):=aH (ar.alloc aU _) aU;change Code.wp _ _ _ _ ((w1.alloc (.cells (dw [0,0,0,0,0,0,0,0]).toArray 238)).setRow w1.heap.size (dw eH.list).toArray);generalize ((w1.alloc (.cells (dw [0,0,0,0,0,0,0,0]).toArray 238)).setRow w1.heap.size (dw eH.list).toArray)=W2 at Fr nQ⊢;generalize w1.heap.size=R at Fr aU⊢;clear ar;obtain⟨q,hq⟩:∃q,q=s.size / 64:=⟨_,rfl⟩;have hqI:(s.size:Int) / 64*64=((64*q:Nat):Int):=by omega
 have aaI:(s.size:Int) / 64=(q:Int):=by omega
 obtain⟨LN,mR⟩:∃a,a=64*q:=⟨_,rfl⟩;rw[hqI,aaI,<-mR];have Hq:=Ih hq;have Hat:=Ih mR;clear hq hqI aaI
 go_loopw [5] (fun a wr=>∃i:Nat,a=.int .i64 ((64*i:Nat):Int)/\i<=q/\V8 R (Lz.fO (Lz.lS bi) 64 i eH s.data.toList) wr/\Below w.heap.size w wr) (fun a _=>LN-(intOf a).toNat)
 case atStart=>exact⟨0,rfl,by omega,Fr,nQ⟩
 case round=>
  obtain⟨i,rfl,hi,hV,hb⟩:=hrel;obtain⟨a1,Cu⟩:∃a,a=64*i:=⟨_,rfl⟩;rw[<-Cu];by_cases aV:i<q
  ·have h1:(a1:Int)<(LN:Int):=by omega
   have h2:(a1:Int)+64<=s.size:=by have:=Hq.out;omega
   have Ha1:=Ih Cu;clear Cu mR
   go_wp2_with fail
   have vN:=HT.out.keep hb;have hz:(s.extract a1 (a1+64)).size=64:=by rw[ByteArray.size_extract];omega
   refine(cT.out R w.heap.size _ _ hz wr hV aU vN).mono ?_;rintro e w3 ⟨rfl,aO,Wb⟩
   have HV3:Hid (V8 R (Lz.fO (Lz.lS bi) 64 (i+1) eH s.data.toList) w3):=by
    show V8 _ _ _;rw[lD,<-Ha1.out];rw[show(s.extract a1 (a1+64)).data.toList=(s.data.toList.drop a1).take 64 by simp[ByteArray.data_extract,List.take_drop]]at Wb;exact Wb
   have dy:=hb.trans aO;clear Wb hV hb aO vN hz
   go_wp2_with fail
   go_roundw
   case rel=>exact⟨i+1,by rw[Ha1.out];go_num,by omega,HV3.out,dy⟩
   case measure=>simp[intOf];omega
  ·obtain rfl:i=q:=by omega
   have yw:a1=LN:=by omega
   subst yw;clear Cu mR;have h1:¬((a1:Int)<(a1:Int)):=by omega
   have h2:(a1:Int)<=s.size:=by have:=Hq.out;have:=Hat.out;omega
   have cE:=Ih (fun W=>Q6 s.size (by omega) W);obtain⟨pb,Cg⟩:∃pb:ByteArray,pb=⟨(Lz.xl s.size).toArray⟩:=⟨_,rfl⟩;have kN:pb.size=72-(s.size+8)%64:=by rw[Cg];show(Lz.xl s.size).toArray.size=_;rw[List.size_toArray,Lz.ON]
   have acz:¬9223372036854775807<s.size-a1+pb.size:=by omega
   have Hps:=Ih kN;rw[<-Cg]at cE;have Hpb:=Ih Cg;clear kN Cg
   go_upto_region 7 with fail
   have pG:V8 R _ wr.drew:=hV.drew;refine wp_region_held_drew (S:=fun V=>Below w.heap.size w V) (by kernel_rfl) hb.drew (fun ae=>?_);generalize wr.drew=W4 at ae pG⊢;apply TkG 0 26;apply TkG 1 27;apply TkG 2 28;apply TkG 3 29;apply TkG 4 30
   iterate 5 (rotate_right 2;(·(intro W aM;(try dsimp only at aM);(try simp only[Act.put]);(try simp only[List.setIfInBounds_toArray]);(try simp only[List.set_cons_zero,List.set_cons_succ]);go_simp;try with_reducible rfl)))
   (try simp only[Act.put]);(try simp only[List.setIfInBounds_toArray]);(try simp only[List.set_cons_zero,List.set_cons_succ])
   refine wpAnyH_ready (rs:=[5]) (by kernel_rfl) (by simp) ?_;refine AllReadyH.cons rfl (fun K hK=>?_) AllReadyH.nil;go_simp
   go_at_call 186
   refine(cE.out W4).mono ?_;rintro e w5 ⟨rfl,aI⟩;have TF:=pG.keep aI;have Yh:=ae.trans (aI.mono ae.size);refine hK.out _ _ Yh (fun ae=>?_);clear hK K aI pG Yh
   (try simp only[Act.put]);(try simp only[List.setIfInBounds_toArray]);(try simp only[List.set_cons_zero,List.set_cons_succ])
   apply TkG 6 32;apply TkG 7 6
   iterate 2 (rotate_right 2;(·(intro W aM;(try dsimp only at aM);(try simp only[Act.put]);(try simp only[List.setIfInBounds_toArray]);(try simp only[List.set_cons_zero,List.set_cons_succ]);go_simp;try with_reducible rfl)))
   (try simp only[Act.put]);(try simp only[List.setIfInBounds_toArray]);(try simp only[List.set_cons_zero,List.set_cons_succ])
   refine wpAnyH_done (by kernel_rfl) ?_ _
   go_wp2_with fail
   obtain⟨H,hH⟩:∃H,H=Lz.fO (Lz.lS bi) 64 i eH s.data.toList:=⟨_,rfl⟩;rw[<-hH]at TF;have HH:=Ih hH;clear hH;obtain⟨r0,qV⟩:∃r0,r0=s.extract a1 s.size++pb:=⟨_,rfl⟩
   have hk:r0.size%64=0:=by
    have:=Hps.out;have:=Hat.out;have:=Hq.out;rw[qV,ByteArray.size_append,ByteArray.size_extract];omega
   have XY:r0.size<=1073742000:=by
    have:=Hps.out;rw[qV,ByteArray.size_append,ByteArray.size_extract];omega
   rw[<-qV];have Hr0:=Ih qV;clear qV;obtain⟨k,yx⟩:∃k,r0.size=64*k:=⟨r0.size / 64,by omega⟩;have Hk0:=Ih yx;clear hk yx hb hV
   go_loopw [6] (fun v wr=>∃(j:Nat) (r:ByteArray),v=.string r/\j<=k/\Hid (r.data.toList=r0.data.toList.drop (64*j))/\V8 R (Lz.fO (Lz.lS bi) 64 j H r0.data.toList) wr/\Below w.heap.size w wr) (fun v _=>match v with| .string r=>r.size|_=>0)
   case atStart=>exact⟨0,r0,rfl,by omega,rfl,TF,ae⟩
   case round=>
    obtain⟨j,r,rfl,hj,Hr,hV,hb⟩:=hrel
    have hrs:r.size=64*(k-j):=by
     have h1:r.data.toList.length=(r0.data.toList.drop (64*j)).length:=by rw[Hr.out]
     have h2:=Hk0.out;rw[List.length_drop,aa,aa]at h1;omega
    by_cases aV:j<k
    ·have ed:r.toList.isEmpty=false:=qK (by omega);have h64:(64:Int)<=r.size:=by omega
     have Hrs:=Ih hrs;clear hrs
     go_wp2_with fail
     have vN:=HT.out.keep hb;have hz:(r.extract 0 64).size=64:=by rw[ByteArray.size_extract];omega
     refine(cT.out R w.heap.size _ _ hz wr hV aU vN).mono ?_;rintro e w3 ⟨rfl,aO,Wb⟩
     have HV3:Hid (V8 R (Lz.fO (Lz.lS bi) 64 (j+1) H r0.data.toList) w3):=by
      show V8 _ _ _;rw[lD,<-Hr.out];rw[show(r.extract 0 64).data.toList=r.data.toList.take 64 by simp[ByteArray.data_extract]]at Wb;exact Wb
     have dy:=hb.trans aO
     have Mh:Hid ((r.extract 64 r.size).data.toList=r0.data.toList.drop (64*(j+1))):=by
      show _=_;rw[show(r.extract 64 r.size).data.toList=r.data.toList.drop 64 by simp[ByteArray.data_extract,List.take_drop];rw[List.take_of_length_le (by rw[aa];omega)],Hr.out,List.drop_drop,Nat.mul_succ]
     clear Wb hV hb aO vN hz
     go_wp2_with fail
     go_roundw
     case rel=>exact⟨j+1,_,rfl,by omega,Mh,HV3.out,dy⟩
     case measure=>simp[ByteArray.size_extract];omega
    ·obtain rfl:j=k:=by omega
     have ed:r.toList.isEmpty=true:=oQ (by omega)
     go_wp2_with (first |(refine wpList_load_row rfl 238 (.tmp 3) rfl R rfl 238 _ (0,0) _ hV Tryz.underlying238 rfl jt ?_))
     obtain⟨F,hF⟩:∃F,F=Lz.fO (Lz.lS bi) 64 j H r0.data.toList:=⟨_,rfl⟩;rw[<-hF];have HF:=Ih hF;clear hF hV;have uJ:=Ih (fun(i:Nat) (hi:i<8) W=>OF F.list rfl i hi W);obtain⟨A8,TT⟩:∃A,A=(dw F.list).toArray:=⟨_,rfl⟩;rw[<-TT]at uJ⊢;clear TT
     go_loopw [7,9,41] (fun v _ k wr=>∃i:Nat,k=.int .i64 i/\i<=8/\wr.ownsRow w.heap.size 5 1 v (4*i) (u8s ((F.list.take i).flatMap Lz.pd))/\Below w.heap.size w wr) (fun _ _ k _=>8-(intOf k).toNat)
     case atStart=>exact⟨0,rfl,by omega,World.ownsRow_nil _ _ _ _,hb⟩
     case round=>
      obtain⟨i8,rfl,Sv,au,hb⟩:=hrel;have ew:=Ih au;have ju:=hb.size;clear au;by_cases aV:i8<8
      ·have bW:(i8:Int)<8:=by omega
       have abW:(0:Int)<=(i8:Int)/\(i8:Int)<8:=by omega
       have yr:=uJ.out i8 aV;obtain⟨x,hx⟩:∃x,F.list.getD i8 0=x:=⟨_,rfl⟩;rw[hx]at yr;have Hx:=Ih hx;clear hx
       have gM:Hid (u8s ((F.list.take i8).flatMap Lz.pd)++[.int .u8 (N32 x / 16777216%256),.int .u8 (N32 x / 65536%256),.int .u8 (N32 x / 256%256),.int .u8 (N32 x%256)]=u8s ((F.list.take (i8+1)).flatMap Lz.pd)):=by
        show _=_;have h8:i8<F.list.length:=aV;rw[abd,BA,List.take_succ_eq_append_getElem h8,List.flatMap_append,<-Hx.out,List.getD_eq_getElem?_getD,List.getElem?_eq_getElem h8]
        simp
       go_wp2_with (at_builtin;refine wpList_append_own _ rfl (.tmp 44) (.tmp 56) 75 rfl w.heap.size 5 i0 (.int .u8 0) 1 1 Tryz.underlying75 o9 fI ei eM rfl (by decide) _ _ _ rfl (ew.out.alloc _) ⟨wr.heap.size,0,none⟩ 4 4 [.int .u8 (N32 x / 16777216%256),.int .u8 (N32 x / 65536%256),.int .u8 (N32 x / 256%256),.int .u8 (N32 x%256)] rfl rfl (mC wr [.int .u8 (N32 x / 16777216%256),.int .u8 (N32 x / 65536%256),.int .u8 (N32 x / 256%256),.int .u8 (N32 x%256)] _) (by simp[Value.oneCell']) (by unfold maxLen;omega) (by omega) (by simp;omega) ?_)
       intro v' w9 bf cp _;have Fm:=Below.grown1 hb ew.out cp ju (Nat.le_refl _);rw[gM.out]at bf;have gV:=Ih bf;clear bf cp gM hb
       go_wp2
       go_roundw
       case rel=>exact⟨i8+1,by go_num,by omega,by rw[Nat.mul_succ];exact gV.out,Fm⟩
       case measure=>simp[intOf];omega
      ·obtain rfl:i8=8:=by omega
       have pJ:=rc ew.out;clear ew
       go_wp2
       go_ret
       have aaF:r0.data.toList=s.data.toList.drop (s.size / 64*64)++Lz.xl s.size:=by
        have e1:s.size / 64*64=a1:=by rw[Hat.out,<-Hq.out];omega
        rw[Hr0.out,Hpb.out,e1]
        simp[ByteArray.data_extract,ByteArray.data_append]
        rw[List.take_of_length_le (by rw[List.length_drop,aa];exact Nat.le_refl _)]
       have nP:(s.data.toList.drop (s.size / 64*64)++Lz.xl s.size).length / 64=j:=by
        rw[<-aaF,aa,Hk0.out];omega
       have e:(F.list.take 8).flatMap Lz.pd=Lz.tX bi eH s.data.toList:=by
        unfold Lz.tX Lz.NL;rw[aa,nP,<-Hq.out,<-HH.out,Hq.out,<-aaF,<-HF.out];rfl
       rw[e];exact⟨rfl,hb⟩
theorem py (x:UInt64) (a b c:Nat) (ha:0<a/\a<64) (hb:0<b/\b<64) (hc:0<c/\c<64) (t:Bool) (w:World):Calls Tryz.prog 261 #[.int .u64 (N64 x),.int .i64 (a:Int),.int .i64 (b:Int),.int .i64 (c:Int),.bool t] w fun e w'=>e=.returned (.int .u64 (N64 (Lz.dL x (UInt64.ofNat a) (UInt64.ofNat b) (UInt64.ofNat c) t)))/\w=w':=by
 have ca:=Ih (qs x a ha.1 ha.2 w);have cb:=Ih (qs x b hb.1 hb.2 w);have cc:=Ih (qs x c hc.1 hc.2 w);have wa:IntKind.i64.wrap (-(a:Int))= -(a:Int):=IntWalk.i64_in _ (by omega);have wb:IntKind.i64.wrap (-(b:Int))= -(b:Int):=IntWalk.i64_in _ (by omega);have wc:IntKind.i64.wrap (-(c:Int))= -(c:Int):=IntWalk.i64_in _ (by omega);have c0:(0:Int)<=(c:Int):=by omega
 have c1:(c:Int)<=64:=by omega
 have e1:=Vb x c hc.2;have fx:=aa9;have HV:Hid (Lz.dL x (UInt64.ofNat a) (UInt64.ofNat b) (UInt64.ofNat c) t=(Lz.qZ x (UInt64.ofNat a) ^^^ Lz.qZ x (UInt64.ofNat b)) ^^^ (if t then Lz.qZ x (UInt64.ofNat c)else x>>>UInt64.ofNat c)):=rfl;rw[HV.out];clear HV ha hb hc;cases t
 ·go_enter Tryz.func261,Tryz.ntmps261
  go_wp2_with fail
  refine ca.out.mono ?_;rintro e w1 ⟨rfl,rfl⟩
  go_wp2_with fail
  refine cb.out.mono ?_;rintro e w1 ⟨rfl,rfl⟩
  go_wp2_with fail
  go_ret;exact⟨rfl,rfl⟩
 ·go_enter Tryz.func261,Tryz.ntmps261
  go_wp2_with fail
  refine cc.out.mono ?_;rintro e w1 ⟨rfl,rfl⟩
  go_wp2_with fail
  refine ca.out.mono ?_;rintro e w1 ⟨rfl,rfl⟩
  go_wp2_with fail
  refine cb.out.mono ?_;rintro e w1 ⟨rfl,rfl⟩
  go_wp2_with fail
  go_ret;exact⟨rfl,rfl⟩
theorem abc (x:UInt64):IntKind.u64.wrap (N64 x*256)=N64 (x<<<8):=YO x 8 (by omega)
theorem GX (s:ByteArray) (hs:8<=s.size) (dN:s.size<=1073741824) (l:List UInt8) (i:Nat) (hl:s.data.toList=l.drop (8*i)) (w:World):Calls Tryz.prog 260 #[.string s] w fun e w'=>e=.returned (.int .u64 (N64 (Lz.j6 l i 8)))/\w=w':=by
 have fo:=Vw;have f8:=abc;have f9:=abm
 have HL:Hid (∀k,k<s.size->s.data.toList[k]? =some (l.getD (8*i+k) 0)):=by
  show ∀k,_;intro k hk;have h1:k<s.data.toList.length:=by rw[aa];exact hk
  have h2:(l.drop (8*i))[k]? =s.data.toList[k]? :=by rw[hl]
  rw[List.getElem?_drop]at h2;rw[List.getD_eq_getElem?_getD,h2,List.getElem?_eq_getElem h1];rfl
 clear hl;go_enter Tryz.func260,Tryz.ntmps260
 go_wp2_with fail
 go_loop [2,3,4] (fun v _ k=>∃j:Nat,k=.int .i64 (j:Int)/\j<=8/\v=.int .u64 (N64 (Lz.j6 l i j))) (fun _ _ k=>8-(intOf k).toNat)
 case atStart=>exact⟨0,rfl,by omega,rfl⟩
 case round=>
  obtain⟨j,rfl,hj,rfl⟩:=hrel;by_cases aV:j<8
  ·have bW:(j:Int)<8:=by omega
   have Wq:j<s.size:=by omega
   have h1:=HL.out j Wq;obtain⟨c,hc⟩:∃c,c=s[j]:=⟨_,rfl⟩;have pJ:(s[j].toNat:Int)=N64 c.toUInt64:=by rw[hc];rfl
   have HW:Hid (Lz.j6 l i (j+1)=(Lz.j6 l i j<<<8)||| c.toUInt64):=by
    show _=_;rw[Lz.j6,hc];rw[aB Wq]at h1;rw[Option.some.inj h1]
   clear h1 hc
   go_wp2_with fail
   go_round
   case rel=>exact⟨j+1,by go_num,by omega,by rw[HW.out]⟩
   case measure=>simp[intOf];omega
  ·obtain rfl:j=8:=by omega
   go_wp2_with fail
   go_ret;exact⟨rfl,rfl⟩
def eS (l:List UInt64):List Value:=l.map fun x=>.int .u64 (N64 x)
theorem MO (l:List UInt64):(eS l).toArray.all (·.oneCell')=true:=by
 rw[List.all_toArray,List.all_eq_true];intro v hv;unfold eS at hv;obtain⟨x,_,rfl⟩:=List.mem_map.1 hv;rfl
def xj (bi:List UInt64) (w:World):Prop:=10<w.heap.size/\∀i,i<80->w.cell? ⟨10,i,none⟩=some (.int .u64 (N64 (bi.getD i 0)))
theorem xj.keep {bi:List UInt64} {w w':World} (h:xj bi w) (hb:Below w.heap.size w w'):xj bi w':=⟨Nat.lt_of_lt_of_le h.1 hb.size,fun i hi=>by rw[hb.cell h.1];exact h.2 i hi⟩
def zH:List UInt64:=[0,0,0,0,0,0,0,0]
theorem pg:(Tryz.prog.info? 242).map (·.size)=some 8:=by kernel_rfl
structure iG (H H1 H2:Nat) (h:Lz.St8 UInt64) (l:List UInt64) (w:World):Prop where
 own:w.heap[H]? =some (.cells (eS h.list).toArray 242 (0,0))
 out:w.heap[H1]? =some (.cells (eS zH).toArray 242 (0,0))
 ring:w.heap[H2]? =some (.cells (eS l).toArray 317 (0,0))
 ne:H≠H2/\H1≠H2
theorem iG.drew {H H1 H2:Nat} {h:Lz.St8 UInt64} {l:List UInt64} {w:World} (k:iG H H1 H2 h l w):iG H H1 H2 h l w.drew:=⟨k.own,k.out,k.ring,k.ne⟩
theorem QW {H:Nat} {l:List UInt64} {T:TypeId} {w:World} (h:w.heap[H]? =some (.cells (eS l).toArray T (0,0))) (j:Nat) (hj:j<l.length):w.cell? ⟨H,j,none⟩=some (.int .u64 (N64 (l.getD j 0))):=by
 refine rowAt h j _ ?_;rw[List.getElem?_toArray];unfold eS;rw[List.getElem?_map,List.getD_eq_getElem?_getD,List.getElem?_eq_getElem hj];rfl
theorem iG.open {H H1 H2:Nat} {h:Lz.St8 UInt64} {l:List UInt64} {w:World} (k:iG H H1 H2 h l w) (j:Nat) (hj:j<l.length):w.cell? ⟨H2,j,none⟩=some (.int .u64 (N64 (l.getD j 0)))/\w.frozen? ⟨H2,j,none⟩=false:=by
 refine⟨QW k.ring j hj,?_⟩;have:=k.ring
 simp[World.frozen?,this]
theorem iG.set {H H1 H2:Nat} {h:Lz.St8 UInt64} {l:List UInt64} {w:World} (k:iG H H1 H2 h l w) (j:Nat) (x:UInt64):iG H H1 H2 h (l.set j x) (w.setCell ⟨H2,j,none⟩ (.int .u64 (N64 x))):=by
 refine⟨?_,?_,?_,k.ne⟩
 ·rw[heap_setCell_other _ _ _ _ _ k.ne.1];exact k.own
 ·rw[heap_setCell_other _ _ _ _ _ k.ne.2];exact k.out
 ·rw[fF k.ring j];unfold eS;rw[List.setIfInBounds_toArray,List.map_set]
theorem kA {H j k:Nat} (h:j≠k):(⟨H,k,none⟩:Addr)≠⟨H,j,none⟩:=fun e=>h (by injection e with _ e;exact e.symm)
theorem Dm (w:World) (h:Lz.St8 UInt64):iG w.heap.size (w.heap.size+1) (w.heap.size+1+1) h (List.replicate 16 0) (((w.alloc (.cells (eS h.list).toArray 242)).alloc (.cells (eS zH).toArray 242)).alloc (.cells (eS (List.replicate 16 0)).toArray 317)):=by
 refine⟨?_,?_,?_,by omega,by omega⟩
 ·rw[Below.heap_alloc _ _ _ (by simp;omega),Below.heap_alloc _ _ _ (by simp)];exact ah _ _
 ·rw[Below.heap_alloc _ _ _ (by simp)];exact dm _ _ _
 ·have:=ah ((w.alloc (.cells (eS h.list).toArray 242)).alloc (.cells (eS zH).toArray 242)) (.cells (eS (List.replicate 16 0)).toArray 317);simpa using this
theorem KA (b:List UInt8) (i:Nat) (h:i<16):Lz.dk b (i+1)=(Lz.dk b i).set i (Lz.j6 b i 8):=by
 rw[Lz.dk,if_pos h,Nat.mod_eq_of_lt h]
theorem N4 (bi:List UInt64) (h:Lz.St8 UInt64) (b:ByteArray) (vq:b.size=128) (w:World) (hT:xj bi w):Calls Tryz.prog 225 #[.agg (eS h.list).toArray,.string b] w fun e w'=>e=.returned (.agg (eS (Lz.oH bi h b.data.toList).list).toArray)/\Below w.heap.size w w':=by
 have HT:=Ih hT;have Fu:Below w.heap.size w (((w.alloc (.cells (eS h.list).toArray 242)).alloc (.cells (eS zH).toArray 242)).alloc (.cells (eS (List.replicate 16 0)).toArray 317)):=(((Below.refl _ w).alloc (Nat.le_refl _) _).alloc (by simp) _).alloc (by simp;omega) _;have hR:=Dm w h;have HS:=Ih vq;clear hT vq;have cW:Hid (∀(s:ByteArray) (i:Nat) W,8<=s.size->s.size<=1073741824->s.data.toList=b.data.toList.drop (8*i)->Calls Tryz.prog 260 #[.string s] W fun e w'=>e=.returned (.int .u64 (N64 (Lz.j6 b.data.toList i 8)))/\W=w'):=Ih (fun s i W h1 h2 h3=>GX s h1 h2 b.data.toList i h3 W);obtain⟨l,hl⟩:∃l,l=b.data.toList:=⟨_,rfl⟩;rw[<-hl]at cW⊢;have HL:=Ih hl;clear hl;obtain⟨L,hL⟩:∃L:List UInt64,L=List.replicate 16 0:=⟨_,rfl⟩;obtain⟨W,hW⟩:∃W,W=(((w.alloc (.cells (eS h.list).toArray 242)).alloc (.cells (eS zH).toArray 242)).alloc (.cells (eS (List.replicate 16 0)).toArray 317)):=⟨_,rfl⟩;rw[<-hW]at hR Fu;rw[<-hL]at hR;have HLL:=Ih hL;have HW:=Ih hW;clear hW hL;have Ci:w.heap.size<=w.heap.size+1:=by omega
 have E1:w.heap.size<=w.heap.size+1+1:=by omega
 obtain⟨ha,hb,hc,hd,he,hf,hg,hz⟩:=h;have hB:=Fu;clear Fu;go_enter Tryz.func225,Tryz.ntmps225
 go_upto_region 2 with fail
 change Code.wp _ _ _ _ (((w.alloc (.cells (eS (Lz.St8.mk ha hb hc hd he hf hg hz).list).toArray 242)).alloc (.cells (eS zH).toArray 242)).alloc (.cells (eS (List.replicate 16 0)).toArray 317));rw[<-HW.out];clear HW;generalize w.heap.size+1+1=H2 at hR E1⊢;generalize w.heap.size+1=H1 at hR Ci⊢;have hC:Hid (∀V,iG w.heap.size H1 H2 ⟨ha,hb,hc,hd,he,hf,hg,hz⟩ L V->Below w.heap.size w V->((V.cell? ⟨w.heap.size,0,none⟩=some (.int .u64 (N64 ha))/\V.cell? ⟨w.heap.size,1,none⟩=some (.int .u64 (N64 hb))/\V.cell? ⟨w.heap.size,2,none⟩=some (.int .u64 (N64 hc))/\V.cell? ⟨w.heap.size,3,none⟩=some (.int .u64 (N64 hd))/\V.cell? ⟨w.heap.size,4,none⟩=some (.int .u64 (N64 he))/\V.cell? ⟨w.heap.size,5,none⟩=some (.int .u64 (N64 hf))/\V.cell? ⟨w.heap.size,6,none⟩=some (.int .u64 (N64 hg))/\V.cell? ⟨w.heap.size,7,none⟩=some (.int .u64 (N64 hz))))/\iG w.heap.size H1 H2 ⟨ha,hb,hc,hd,he,hf,hg,hz⟩ L V/\Below w.heap.size w V):=Ih (fun V hV hb=>⟨⟨rowAt hV.own 0 _ rfl,rowAt hV.own 1 _ rfl,rowAt hV.own 2 _ rfl,rowAt hV.own 3 _ rfl,rowAt hV.own 4 _ rfl,rowAt hV.own 5 _ rfl,rowAt hV.own 6 _ rfl,rowAt hV.own 7 _ rfl⟩,hV,hb⟩)
 refine wp_region_held_drew (S:=fun V=>(V.cell? ⟨w.heap.size,0,none⟩=some (.int .u64 (N64 ha))/\V.cell? ⟨w.heap.size,1,none⟩=some (.int .u64 (N64 hb))/\V.cell? ⟨w.heap.size,2,none⟩=some (.int .u64 (N64 hc))/\V.cell? ⟨w.heap.size,3,none⟩=some (.int .u64 (N64 hd))/\V.cell? ⟨w.heap.size,4,none⟩=some (.int .u64 (N64 he))/\V.cell? ⟨w.heap.size,5,none⟩=some (.int .u64 (N64 hf))/\V.cell? ⟨w.heap.size,6,none⟩=some (.int .u64 (N64 hg))/\V.cell? ⟨w.heap.size,7,none⟩=some (.int .u64 (N64 hz)))/\iG w.heap.size H1 H2 ⟨ha,hb,hc,hd,he,hf,hg,hz⟩ L V/\Below w.heap.size w V) (by kernel_rfl) (hC.out _ hR.drew hB.drew) (fun ae=>?_);generalize W.drew=W0 at ae⊢;apply TkG 0 18;apply TkG 1 19;apply TkG 2 20;apply TkG 3 21;apply TkG 4 22;apply TkG 5 23;apply TkG 6 24;apply TkG 7 25;apply TkG 8 26
 apply TkG 9 27;apply TkG 10 28;apply TkG 11 29;apply TkG 12 30;apply TkG 13 31;apply TkG 14 32;apply TkG 15 33;apply TkG 16 6;apply TkG 17 7;apply TkG 18 8;apply TkG 19 9;apply TkG 20 10;apply TkG 21 11;apply TkG 22 12;apply TkG 23 13
 iterate 24 (rotate_right 2;(·(intro W aM;(try dsimp only at aM);(try simp only[Act.put]);(try simp only[List.setIfInBounds_toArray]);(try simp only[List.set_cons_zero,List.set_cons_succ]);go_simp;try with_reducible rfl)))
 (try simp only[Act.put]);(try simp only[List.setIfInBounds_toArray]);(try simp only[List.set_cons_zero,List.set_cons_succ])
 refine wpAnyH_done (by kernel_rfl) ?_ _;obtain⟨hR,hB⟩:=ae.2;clear ae;clear hC;have hR:iG w.heap.size H1 H2 ⟨ha,hb,hc,hd,he,hf,hg,hz⟩ (Lz.dk l 0) W0:=by rw[HLL.out]at hR;exact hR
 clear HLL
 go_wp2_with fail
 go_loopw [6,7,8,9,10,11,12,13,14,15,16,17,34] (fun va vb vc vd ve vf vg vz _ _ _ _ k wr=>∃(i:Nat) (sa sb sc sd se sf sg sz:UInt64),k=.int .i64 i/\va=.int .u64 (N64 sa)/\vb=.int .u64 (N64 sb)/\vc=.int .u64 (N64 sc)/\vd=.int .u64 (N64 sd)/\ve=.int .u64 (N64 se)/\vf=.int .u64 (N64 sf)/\vg=.int .u64 (N64 sg)/\vz=.int .u64 (N64 sz)/\i<=80/\Hid (Lz.mJ bi l ⟨ha,hb,hc,hd,he,hf,hg,hz⟩ i=⟨sa,sb,sc,sd,se,sf,sg,sz⟩)/\iG w.heap.size H1 H2 ⟨ha,hb,hc,hd,he,hf,hg,hz⟩ (Lz.dk l i) wr/\Below w.heap.size w wr) (fun _ _ _ _ _ _ _ _ _ _ _ _ k _=>80-(intOf k).toNat)
 case atStart=>exact⟨0,ha,hb,hc,hd,he,hf,hg,hz,rfl,rfl,rfl,rfl,rfl,rfl,rfl,rfl,rfl,by omega,rfl,hR,hB⟩
 case round=>
  obtain⟨i,sa,sb,sc,sd,se,sf,sg,sz,rfl,rfl,rfl,rfl,rfl,rfl,rfl,rfl,rfl,hi,HQ,hR,hB⟩:=hrel;by_cases aV:i<80
  ·have bW:(i:Int)<80:=by omega
   obtain⟨m0,sx⟩:∃m,m=i%16:=⟨_,rfl⟩;have Sj:m0<16:=by omega
   have adb:(i:Int)%16=(m0:Int):=by omega
   have b0:(0:Int)<=(m0:Int)/\(m0:Int)<16:=by omega
   have o9:(0:Int)<=(i:Int)/\(i:Int)<80:=by omega
   have X7:=Ih sx;clear sx
   go_upto_if 40 with fail
   go_cut [15] (fun s wx=>s=.int .i64 (m0:Int)/\iG w.heap.size H1 H2 ⟨ha,hb,hc,hd,he,hf,hg,hz⟩ (Lz.dk l (i+1)) wx/\Below w.heap.size w wx)
   case first=>
    by_cases h16:i<16
    ·have Wf:(i:Int)<16:=by omega
     have Cw:m0=i:=by rw[X7.out];omega
     have HN:Hid (Lz.dk l (i+1)=(Lz.dk l i).set m0 (Lz.j6 l i 8)):=by
      show _=_;rw[KA _ _ h16,Cw]
     clear Cw;obtain⟨j,hj⟩:∃j,j=8*i:=⟨_,rfl⟩;have w8:IntKind.i64.wrap (8*(i:Int))=(j:Int):=by rw[show 8*(i:Int)=(j:Int) by omega];exact IntWalk.i64_in _ (by omega)
     have yo:(b.size:Int)=128:=by rw[HS.out];rfl
     have Ql:(0:Int)<=(j:Int)/\(j:Int)<=128:=by omega
     have LF:(b.extract j b.size).size=128-j:=by rw[ByteArray.size_extract,HS.out];omega
     have cW1:=Ih (fun W=>cW.out (b.extract j b.size) i W (by rw[LF];omega) (by rw[LF];omega) (by rw[HL.out,<-hj,HS.out];simp[ByteArray.data_extract];rw[List.take_of_length_le (by rw[List.length_drop,aa,HS.out];exact Nat.le_refl _)]));obtain⟨bc,lX⟩:=hR.open m0 (by rw[Lz.ig];exact Sj);have Pk:=hR.set m0 (Lz.j6 l i 8);have hBs:=hB.setCell (p:=⟨H2,m0,none⟩) E1 (.int .u64 (N64 (Lz.j6 l i 8)));rw[<-HN.out]at Pk;clear hj LF
     go_wp2_with fail
     refine(cW1.out _).mono ?_;rintro e w5 ⟨rfl,rfl⟩
     go_wp2_with fail
     go_meet;exact⟨rfl,Pk,hBs⟩
    ·have Wf:¬(i:Int)<16:=by omega
     obtain⟨j1,Ql⟩:∃j,j=i+1:=⟨_,rfl⟩;obtain⟨m1,jT⟩:∃m,m=j1%16:=⟨_,rfl⟩;have w1:IntKind.i64.wrap ((i:Int)+1)=(j1:Int):=by rw[show(i:Int)+1=(j1:Int) by omega];exact IntWalk.i64_in _ (by omega)
     have r1:Int.tmod (j1:Int) 16=(m1:Int):=by rw[Int.tmod_eq_emod_of_nonneg (by omega)];omega
     have b1:(0:Int)<=(m1:Int)/\(m1:Int)<16:=by omega
     have l1:m1<(Lz.dk l i).length:=by rw[Lz.ig];omega
     have ne1:m1≠m0:=by have:=X7.out;omega
     obtain⟨x1,iY⟩:∃x,x=(Lz.dk l i).getD m1 0:=⟨_,rfl⟩;obtain⟨j9,hj9⟩:∃j,j=i+9:=⟨_,rfl⟩;obtain⟨m9,Qk⟩:∃m,m=j9%16:=⟨_,rfl⟩;have w9:IntKind.i64.wrap ((i:Int)+9)=(j9:Int):=by rw[show(i:Int)+9=(j9:Int) by omega];exact IntWalk.i64_in _ (by omega)
     have r9:Int.tmod (j9:Int) 16=(m9:Int):=by rw[Int.tmod_eq_emod_of_nonneg (by omega)];omega
     have b9:(0:Int)<=(m9:Int)/\(m9:Int)<16:=by omega
     have l9:m9<(Lz.dk l i).length:=by rw[Lz.ig];omega
     have ne9:m9≠m0:=by have:=X7.out;omega
     obtain⟨x9,X6⟩:∃x,x=(Lz.dk l i).getD m9 0:=⟨_,rfl⟩;obtain⟨j14,ZZ⟩:∃j,j=i+14:=⟨_,rfl⟩;obtain⟨Ss,Sa⟩:∃m,m=j14%16:=⟨_,rfl⟩;have w14:IntKind.i64.wrap ((i:Int)+14)=(j14:Int):=by rw[show(i:Int)+14=(j14:Int) by omega];exact IntWalk.i64_in _ (by omega)
     have r14:Int.tmod (j14:Int) 16=(Ss:Int):=by rw[Int.tmod_eq_emod_of_nonneg (by omega)];omega
     have b14:(0:Int)<=(Ss:Int)/\(Ss:Int)<16:=by omega
     have l14:Ss<(Lz.dk l i).length:=by rw[Lz.ig];omega
     have acI:Ss≠m0:=by have:=X7.out;omega
     obtain⟨Sp,WV⟩:∃x,x=(Lz.dk l i).getD Ss 0:=⟨_,rfl⟩;have Sj:m0<(Lz.dk l i).length:=by rw[Lz.ig];omega
     obtain⟨x0,iB⟩:∃x,x=(Lz.dk l i).getD m0 0:=⟨_,rfl⟩
     have HN:Hid (Lz.dk l (i+1)=(Lz.dk l i).set m0 (x0+((Lz.dL x1 1 8 7 false+x9)+Lz.dL Sp 19 61 6 false))):=by
      show _=_;rw[Lz.dk,if_neg h16,<-X7.out,<-Ql,<-hj9,<-ZZ,<-jT,<-Qk,<-Sa,<-iB,<-iY,<-X6,<-WV]
     have hC9:Hid (∀V,iG w.heap.size H1 H2 ⟨ha,hb,hc,hd,he,hf,hg,hz⟩ (Lz.dk l i) V->(V.cell? ⟨H2,m1,none⟩=some (.int .u64 (N64 x1))/\V.cell? ⟨H2,m9,none⟩=some (.int .u64 (N64 x9))/\V.cell? ⟨H2,Ss,none⟩=some (.int .u64 (N64 Sp)))):=Ih (fun V hV=>⟨by rw[iY];exact(hV.open m1 l1).1,by rw[X6];exact(hV.open m9 l9).1,by rw[WV];exact(hV.open Ss l14).1⟩);have k1:Hid (∀W,Calls Tryz.prog 261 #[.int .u64 (N64 x1),.int .i64 1,.int .i64 8,.int .i64 7,.bool false] W fun e w'=>e=.returned (.int .u64 (N64 (Lz.dL x1 1 8 7 false)))/\W=w'):=Ih (fun W=>py x1 1 8 7 (by omega) (by omega) (by omega) false W);have k14:Hid (∀W,Calls Tryz.prog 261 #[.int .u64 (N64 Sp),.int .i64 19,.int .i64 61,.int .i64 6,.bool false] W fun e w'=>e=.returned (.int .u64 (N64 (Lz.dL Sp 19 61 6 false)))/\W=w'):=Ih (fun W=>py Sp 19 61 6 (by omega) (by omega) (by omega) false W);have fp:=VC;have Hx0:=Ih iB;clear iB Ql hj9 ZZ jT Qk Sa iY X6 WV l1 l9 l14
     go_upto_region 9 with fail
     have pG:=hR.drew;refine wp_region_held_drew (S:=fun V=>(V.cell? ⟨H2,m1,none⟩=some (.int .u64 (N64 x1))/\V.cell? ⟨H2,m9,none⟩=some (.int .u64 (N64 x9))/\V.cell? ⟨H2,Ss,none⟩=some (.int .u64 (N64 Sp)))/\Below w.heap.size w V) (by kernel_rfl) ⟨hC9.out _ hR.drew,hB.drew⟩ (fun ae=>?_);generalize wr.drew=W1 at ae pG⊢;obtain⟨bc,lX⟩:=pG.open m0 Sj;rw[<-Hx0.out]at bc;apply TkG 0 48;apply TkG 1 49;apply TkG 3 51;apply TkG 4 52;apply TkG 5 53;apply TkG 6 54;apply TkG 7 55;apply TkG 9 57;apply TkG 10 58;apply TkG 11 59;apply TkG 12 60;apply TkG 13 61;apply TkG 15 63
     apply TkG 16 64;apply TkG 17 65;apply TkG 18 66;apply TkG 19 67
     iterate 17 (rotate_right 2;(·(intro W aM;(try dsimp only at aM);(try simp only[Act.put]);(try simp only[List.setIfInBounds_toArray]);(try simp only[List.set_cons_zero,List.set_cons_succ]);go_simp;try with_reducible rfl)))
     (try simp only[Act.put]);(try simp only[List.setIfInBounds_toArray]);(try simp only[List.set_cons_zero,List.set_cons_succ])
     refine wpAnyH_ready (rs:=[2,8]) (by kernel_rfl) (by simp) ?_;refine AllReadyH.cons rfl (fun K hK=>?_) (AllReadyH.cons rfl (fun K hK=>?_) AllReadyH.nil)
     ·go_simp;refine hK.out _ _ ae (fun ae=>?_);clear hK K
      (try simp only[Act.put]);(try simp only[List.setIfInBounds_toArray]);(try simp only[List.set_cons_zero,List.set_cons_succ])
      refine wpAnyH_ready (rs:=[8]) (by kernel_rfl) (by simp) ?_;refine AllReadyH.cons rfl (fun K hK=>?_) AllReadyH.nil;go_simp
      go_at_call 261
      refine(k1.out _).mono ?_;rintro e w5 ⟨rfl,rfl⟩;refine hK.out _ _ ae (fun ae=>?_);clear hK K
      (try simp only[Act.put]);(try simp only[List.setIfInBounds_toArray]);(try simp only[List.set_cons_zero,List.set_cons_succ])
      apply TkG 14 62
      iterate 1 (rotate_right 2;(·(intro W aM;(try dsimp only at aM);(try simp only[Act.put]);(try simp only[List.setIfInBounds_toArray]);(try simp only[List.set_cons_zero,List.set_cons_succ]);go_simp;try with_reducible rfl)))
      (try simp only[Act.put]);(try simp only[List.setIfInBounds_toArray]);(try simp only[List.set_cons_zero,List.set_cons_succ])
      refine wpAnyH_ready (rs:=[20]) (by kernel_rfl) (by simp) ?_;refine AllReadyH.cons rfl (fun K hK=>?_) AllReadyH.nil;go_simp
      go_at_call 261
      refine(k14.out _).mono ?_;rintro e w5 ⟨rfl,rfl⟩;refine hK.out _ _ ae (fun ae=>?_);clear hK K
      (try simp only[Act.put]);(try simp only[List.setIfInBounds_toArray]);(try simp only[List.set_cons_zero,List.set_cons_succ])
      apply TkG 21 69;apply TkG 22 70;apply TkG 23 71
      iterate 3 (rotate_right 2;(·(intro W aM;(try dsimp only at aM);(try simp only[Act.put]);(try simp only[List.setIfInBounds_toArray]);(try simp only[List.set_cons_zero,List.set_cons_succ]);go_simp;try with_reducible rfl)))
      (try simp only[Act.put]);(try simp only[List.setIfInBounds_toArray]);(try simp only[List.set_cons_zero,List.set_cons_succ])
      refine wpAnyH_ready (rs:=[24]) (by kernel_rfl) (by simp) ?_;refine AllReadyH.cons rfl (fun K hK=>?_) AllReadyH.nil;go_simp;refine hK.out _ _ ⟨⟨(World.cell?_setCell_other _ _ _ _ (kA (by assumption))).trans ae.1.1,(World.cell?_setCell_other _ _ _ _ (kA (by assumption))).trans ae.1.2.1,(World.cell?_setCell_other _ _ _ _ (kA (by assumption))).trans ae.1.2.2⟩,ae.2.setCell E1 _⟩ (fun ae=>?_);clear hK K
      (try simp only[Act.put]);(try simp only[List.setIfInBounds_toArray]);(try simp only[List.set_cons_zero,List.set_cons_succ])
      refine wpAnyH_done (by kernel_rfl) ?_ _;have Pk:=pG.set m0 (x0+((Lz.dL x1 1 8 7 false+x9)+Lz.dL Sp 19 61 6 false));rw[<-HN.out]at Pk;clear pG bc lX
      go_wp2_with fail
      go_meet;exact⟨rfl,Pk,ae.2⟩
     ·go_simp
      go_at_call 261
      refine(k1.out _).mono ?_;rintro e w5 ⟨rfl,rfl⟩;refine hK.out _ _ ae (fun ae=>?_);clear hK K
      (try simp only[Act.put]);(try simp only[List.setIfInBounds_toArray]);(try simp only[List.set_cons_zero,List.set_cons_succ])
      apply TkG 14 62
      iterate 1 (rotate_right 2;(·(intro W aM;(try dsimp only at aM);(try simp only[Act.put]);(try simp only[List.setIfInBounds_toArray]);(try simp only[List.set_cons_zero,List.set_cons_succ]);go_simp;try with_reducible rfl)))
      (try simp only[Act.put]);(try simp only[List.setIfInBounds_toArray]);(try simp only[List.set_cons_zero,List.set_cons_succ])
      refine wpAnyH_ready (rs:=[2,20]) (by kernel_rfl) (by simp) ?_;refine AllReadyH.cons rfl (fun K hK=>?_) (AllReadyH.cons rfl (fun K hK=>?_) AllReadyH.nil)
      ·go_simp;refine hK.out _ _ ae (fun ae=>?_);clear hK K
       (try simp only[Act.put]);(try simp only[List.setIfInBounds_toArray]);(try simp only[List.set_cons_zero,List.set_cons_succ])
       refine wpAnyH_ready (rs:=[20]) (by kernel_rfl) (by simp) ?_;refine AllReadyH.cons rfl (fun K hK=>?_) AllReadyH.nil;go_simp
       go_at_call 261
       refine(k14.out _).mono ?_;rintro e w5 ⟨rfl,rfl⟩;refine hK.out _ _ ae (fun ae=>?_);clear hK K
       (try simp only[Act.put]);(try simp only[List.setIfInBounds_toArray]);(try simp only[List.set_cons_zero,List.set_cons_succ])
       apply TkG 21 69;apply TkG 22 70;apply TkG 23 71
       iterate 3 (rotate_right 2;(·(intro W aM;(try dsimp only at aM);(try simp only[Act.put]);(try simp only[List.setIfInBounds_toArray]);(try simp only[List.set_cons_zero,List.set_cons_succ]);go_simp;try with_reducible rfl)))
       (try simp only[Act.put]);(try simp only[List.setIfInBounds_toArray]);(try simp only[List.set_cons_zero,List.set_cons_succ])
       refine wpAnyH_ready (rs:=[24]) (by kernel_rfl) (by simp) ?_;refine AllReadyH.cons rfl (fun K hK=>?_) AllReadyH.nil;go_simp;refine hK.out _ _ ⟨⟨(World.cell?_setCell_other _ _ _ _ (kA (by assumption))).trans ae.1.1,(World.cell?_setCell_other _ _ _ _ (kA (by assumption))).trans ae.1.2.1,(World.cell?_setCell_other _ _ _ _ (kA (by assumption))).trans ae.1.2.2⟩,ae.2.setCell E1 _⟩ (fun ae=>?_);clear hK K
       (try simp only[Act.put]);(try simp only[List.setIfInBounds_toArray]);(try simp only[List.set_cons_zero,List.set_cons_succ])
       refine wpAnyH_done (by kernel_rfl) ?_ _;have Pk:=pG.set m0 (x0+((Lz.dL x1 1 8 7 false+x9)+Lz.dL Sp 19 61 6 false));rw[<-HN.out]at Pk;clear pG bc lX
       go_wp2_with fail
       go_meet;exact⟨rfl,Pk,ae.2⟩
      ·go_simp
       go_at_call 261
       refine(k14.out _).mono ?_;rintro e w5 ⟨rfl,rfl⟩;refine hK.out _ _ ae (fun ae=>?_);clear hK K
       (try simp only[Act.put]);(try simp only[List.setIfInBounds_toArray]);(try simp only[List.set_cons_zero,List.set_cons_succ])
       apply TkG 21 69
       iterate 1 (rotate_right 2;(·(intro W aM;(try dsimp only at aM);(try simp only[Act.put]);(try simp only[List.setIfInBounds_toArray]);(try simp only[List.set_cons_zero,List.set_cons_succ]);go_simp;try with_reducible rfl)))
       (try simp only[Act.put]);(try simp only[List.setIfInBounds_toArray]);(try simp only[List.set_cons_zero,List.set_cons_succ])
       refine wpAnyH_ready (rs:=[2]) (by kernel_rfl) (by simp) ?_;refine AllReadyH.cons rfl (fun K hK=>?_) AllReadyH.nil;go_simp;refine hK.out _ _ ae (fun ae=>?_);clear hK K
       (try simp only[Act.put]);(try simp only[List.setIfInBounds_toArray]);(try simp only[List.set_cons_zero,List.set_cons_succ])
       apply TkG 22 70;apply TkG 23 71
       iterate 2 (rotate_right 2;(·(intro W aM;(try dsimp only at aM);(try simp only[Act.put]);(try simp only[List.setIfInBounds_toArray]);(try simp only[List.set_cons_zero,List.set_cons_succ]);go_simp;try with_reducible rfl)))
       (try simp only[Act.put]);(try simp only[List.setIfInBounds_toArray]);(try simp only[List.set_cons_zero,List.set_cons_succ])
       refine wpAnyH_ready (rs:=[24]) (by kernel_rfl) (by simp) ?_;refine AllReadyH.cons rfl (fun K hK=>?_) AllReadyH.nil;go_simp;refine hK.out _ _ ⟨⟨(World.cell?_setCell_other _ _ _ _ (kA (by assumption))).trans ae.1.1,(World.cell?_setCell_other _ _ _ _ (kA (by assumption))).trans ae.1.2.1,(World.cell?_setCell_other _ _ _ _ (kA (by assumption))).trans ae.1.2.2⟩,ae.2.setCell E1 _⟩ (fun ae=>?_);clear hK K
       (try simp only[Act.put]);(try simp only[List.setIfInBounds_toArray]);(try simp only[List.set_cons_zero,List.set_cons_succ])
       refine wpAnyH_done (by kernel_rfl) ?_ _;have Pk:=pG.set m0 (x0+((Lz.dL x1 1 8 7 false+x9)+Lz.dL Sp 19 61 6 false));rw[<-HN.out]at Pk;clear pG bc lX
       go_wp2_with fail
       go_meet;exact⟨rfl,Pk,ae.2⟩
   case rest=>
    obtain⟨rfl,hR,hB⟩:=hcut;obtain⟨L1,TP⟩:∃L,L=Lz.dk l (i+1):=⟨_,rfl⟩;rw[<-TP]at hR;obtain⟨ki,oW⟩:∃k,k=bi.getD i 0:=⟨_,rfl⟩;obtain⟨xi,JI⟩:∃k,k=L1.getD m0 0:=⟨_,rfl⟩
    have HX:Hid (Lz.mJ bi l ⟨ha,hb,hc,hd,he,hf,hg,hz⟩ (i+1)=Lz.S0 ⟨sa,sb,sc,sd,se,sf,sg,sz⟩ ki xi):=by
     show _=_;rw[Lz.mJ,HQ.out,<-oW,JI,TP,X7.out]
    have Cj:m0<L1.length:=by rw[TP,Lz.ig];exact Sj
    have ach:Hid (∀V,iG w.heap.size H1 H2 ⟨ha,hb,hc,hd,he,hf,hg,hz⟩ L1 V->Below w.heap.size w V->(V.cell? ⟨10,i,none⟩=some (.int .u64 (N64 ki))/\V.cell? ⟨H2,m0,none⟩=some (.int .u64 (N64 xi)))/\iG w.heap.size H1 H2 ⟨ha,hb,hc,hd,he,hf,hg,hz⟩ L1 V/\Below w.heap.size w V):=Ih (fun V hV hb=>⟨⟨by rw[oW,hb.cell HT.out.1];exact HT.out.2 i aV,by rw[JI];exact(hV.open m0 Cj).1⟩,hV,hb⟩);have ke:Hid (∀W,Calls Tryz.prog 261 #[.int .u64 (N64 se),.int .i64 14,.int .i64 18,.int .i64 41,.bool true] W fun e w'=>e=.returned (.int .u64 (N64 (Lz.dL se 14 18 41 true)))/\W=w'):=Ih (fun W=>py se 14 18 41 (by omega) (by omega) (by omega) true W);have ka:Hid (∀W,Calls Tryz.prog 261 #[.int .u64 (N64 sa),.int .i64 28,.int .i64 34,.int .i64 39,.bool true] W fun e w'=>e=.returned (.int .u64 (N64 (Lz.dL sa 28 34 39 true)))/\W=w'):=Ih (fun W=>py sa 28 34 39 (by omega) (by omega) (by omega) true W);have fp:=VC;have fa:=abo;have fo:=Vw;have fd:=abj;have HL1:=Ih TP;clear oW JI Cj TP
    go_upto_region 10 with fail
    refine wp_region_held_drew (S:=fun V=>(V.cell? ⟨10,i,none⟩=some (.int .u64 (N64 ki))/\V.cell? ⟨H2,m0,none⟩=some (.int .u64 (N64 xi)))/\iG w.heap.size H1 H2 ⟨ha,hb,hc,hd,he,hf,hg,hz⟩ L1 V/\Below w.heap.size w V) (by kernel_rfl) (ach.out _ hR.drew hB.drew) (fun ae=>?_);generalize wc.drew=W2 at ae⊢;apply TkG 0 72;apply TkG 1 73;apply TkG 4 76;apply TkG 5 77;apply TkG 6 78;apply TkG 7 79;apply TkG 8 80;apply TkG 9 81;apply TkG 10 82;apply TkG 12 84;apply TkG 13 85;apply TkG 14 86;apply TkG 16 88;apply TkG 17 89
    apply TkG 18 90
    iterate 15 (rotate_right 2;(·(intro W aM;(try dsimp only at aM);(try simp only[Act.put]);(try simp only[List.setIfInBounds_toArray]);(try simp only[List.set_cons_zero,List.set_cons_succ]);go_simp;try with_reducible rfl)))
    (try simp only[Act.put]);(try simp only[List.setIfInBounds_toArray]);(try simp only[List.set_cons_zero,List.set_cons_succ])
    refine wpAnyH_ready (rs:=[2]) (by kernel_rfl) (by simp) ?_;refine AllReadyH.cons rfl (fun K hK=>?_) AllReadyH.nil;go_simp
    go_at_call 261
    refine(ke.out _).mono ?_;rintro e w5 ⟨rfl,rfl⟩;refine hK.out _ _ ae (fun ae=>?_);clear hK K
    (try simp only[Act.put]);(try simp only[List.setIfInBounds_toArray]);(try simp only[List.set_cons_zero,List.set_cons_succ])
    apply TkG 3 75;apply TkG 11 83;apply TkG 15 87;apply TkG 19 91;apply TkG 20 16
    iterate 5 (rotate_right 2;(·(intro W aM;(try dsimp only at aM);(try simp only[Act.put]);(try simp only[List.setIfInBounds_toArray]);(try simp only[List.set_cons_zero,List.set_cons_succ]);go_simp;try with_reducible rfl)))
    (try simp only[Act.put]);(try simp only[List.setIfInBounds_toArray]);(try simp only[List.set_cons_zero,List.set_cons_succ])
    refine wpAnyH_done (by kernel_rfl) ?_ _;obtain⟨hR,hB⟩:=ae.2;clear ae;obtain⟨t,ht⟩:∃t,t=(((sz+Lz.dL se 14 18 41 true)+((se&&& sf)||| (sg&&& ~~~se)))+ki)+xi:=⟨_,rfl⟩;rw[<-ht];have HTE:=Ih ht;clear ht
    have XW:Hid (Lz.mJ bi l ⟨ha,hb,hc,hd,he,hf,hg,hz⟩ (i+1)=⟨t+(Lz.dL sa 28 34 39 true+((sa&&& sb)||| (sc&&& (sa||| sb)))),sa,sb,sc,sd+t,se,sf,sg⟩):=by
     show _=_;rw[HX.out,HTE.out];rfl
    clear HX HTE
    go_wp2_with fail
    refine(ka.out _).mono ?_;rintro e w5 ⟨rfl,rfl⟩;rw[HL1.out]at hR
    go_wp2_with fail
    go_roundw
    case rel=>exact⟨i+1,_,_,_,_,_,_,_,_,by go_num,rfl,rfl,rfl,rfl,rfl,rfl,rfl,rfl,by omega,XW,hR,hB⟩
    case measure=>simp[intOf];omega
  ·obtain rfl:i=80:=by omega
   have bW:¬(((80:Nat):Int)<80):=by omega
   obtain⟨c0,c1,c2,c3,c4,c5,c6,c7⟩:wr.cell? ⟨w.heap.size,0,none⟩=some (.int .u64 (N64 ha))/\wr.cell? ⟨w.heap.size,1,none⟩=some (.int .u64 (N64 hb))/\wr.cell? ⟨w.heap.size,2,none⟩=some (.int .u64 (N64 hc))/\wr.cell? ⟨w.heap.size,3,none⟩=some (.int .u64 (N64 hd))/\wr.cell? ⟨w.heap.size,4,none⟩=some (.int .u64 (N64 he))/\wr.cell? ⟨w.heap.size,5,none⟩=some (.int .u64 (N64 hf))/\wr.cell? ⟨w.heap.size,6,none⟩=some (.int .u64 (N64 hg))/\wr.cell? ⟨w.heap.size,7,none⟩=some (.int .u64 (N64 hz)):=⟨rowAt hR.own 0 _ rfl,rowAt hR.own 1 _ rfl,rowAt hR.own 2 _ rfl,rowAt hR.own 3 _ rfl,rowAt hR.own 4 _ rfl,rowAt hR.own 5 _ rfl,rowAt hR.own 6 _ rfl,rowAt hR.own 7 _ rfl⟩;obtain⟨d0,d1,d2,d3,d4,d5,d6,d7⟩:wr.cell? ⟨H1,0,none⟩=some (.int .u64 0)/\wr.cell? ⟨H1,1,none⟩=some (.int .u64 0)/\wr.cell? ⟨H1,2,none⟩=some (.int .u64 0)/\wr.cell? ⟨H1,3,none⟩=some (.int .u64 0)/\wr.cell? ⟨H1,4,none⟩=some (.int .u64 0)/\wr.cell? ⟨H1,5,none⟩=some (.int .u64 0)/\wr.cell? ⟨H1,6,none⟩=some (.int .u64 0)/\wr.cell? ⟨H1,7,none⟩=some (.int .u64 0):=⟨rowAt hR.out 0 _ rfl,rowAt hR.out 1 _ rfl,rowAt hR.out 2 _ rfl,rowAt hR.out 3 _ rfl,rowAt hR.out 4 _ rfl,rowAt hR.out 5 _ rfl,rowAt hR.out 6 _ rfl,rowAt hR.out 7 _ rfl⟩
   obtain⟨f0,f1,f2,f3,f4,f5,f6,f7⟩:wr.frozen? ⟨H1,0,none⟩=false/\wr.frozen? ⟨H1,1,none⟩=false/\wr.frozen? ⟨H1,2,none⟩=false/\wr.frozen? ⟨H1,3,none⟩=false/\wr.frozen? ⟨H1,4,none⟩=false/\wr.frozen? ⟨H1,5,none⟩=false/\wr.frozen? ⟨H1,6,none⟩=false/\wr.frozen? ⟨H1,7,none⟩=false:=⟨frozen_of_row _ _ _ _ _ hR.out,frozen_of_row _ _ _ _ _ hR.out,frozen_of_row _ _ _ _ _ hR.out,frozen_of_row _ _ _ _ _ hR.out,frozen_of_row _ _ _ _ _ hR.out,frozen_of_row _ _ _ _ _ hR.out,frozen_of_row _ _ _ _ _ hR.out,frozen_of_row _ _ _ _ _ hR.out⟩;have hO:=fF (fF (fF (fF (fF (fF (fF (fF (hR.out) 0 (.int .u64 (N64 (ha+sa)))) 1 (.int .u64 (N64 (hb+sb)))) 2 (.int .u64 (N64 (hc+sc)))) 3 (.int .u64 (N64 (hd+sd)))) 4 (.int .u64 (N64 (he+se)))) 5 (.int .u64 (N64 (hf+sf)))) 6 (.int .u64 (N64 (hg+sg)))) 7 (.int .u64 (N64 (hz+sz)))
   have hBO:=((((((((hB.setCell (p:=⟨H1,0,none⟩) Ci (.int .u64 (N64 (ha+sa)))).setCell (p:=⟨H1,1,none⟩) Ci (.int .u64 (N64 (hb+sb)))).setCell (p:=⟨H1,2,none⟩) Ci (.int .u64 (N64 (hc+sc)))).setCell (p:=⟨H1,3,none⟩) Ci (.int .u64 (N64 (hd+sd)))).setCell (p:=⟨H1,4,none⟩) Ci (.int .u64 (N64 (he+se)))).setCell (p:=⟨H1,5,none⟩) Ci (.int .u64 (N64 (hf+sf)))).setCell (p:=⟨H1,6,none⟩) Ci (.int .u64 (N64 (hg+sg)))).setCell (p:=⟨H1,7,none⟩) Ci (.int .u64 (N64 (hz+sz))));have fp:=VC
   go_wp2_with fail
   refine bodyPost_ret (results_cell_row (P:=Tryz.prog) (p:=4) rfl _ _ H1 242 (eS (Lz.MJ (Lz.St8.mk ha hb hc hd he hf hg hz) (Lz.St8.mk sa sb sc sd se sf sg sz)).list).toArray (0,0) _ rfl (by exact hO) Tryz.underlying242 rfl (by exact pg)) rfl ?_;refine⟨?_,hBO⟩;unfold Lz.oH;rw[HQ.out]
end Go.Proofs.YtecoeebjaleeiaaGreatDoor
namespace Lz
open Go
def nR (r:Bs):Nat->Nat
 | 0=>0
 | k+1=>nR r k*256+(r.getD k 0).toNat
theorem IK (r:Bs):∀k,nR r k<256^k
 | 0=>by simp[nR]
 | k+1=>by
   have h:=IK r k;have h2:=(r.getD k 0).toNat_lt;rw[nR,Nat.pow_succ];omega
def FJ (r:Bs) (j:Nat):UInt8:=if r.length<j then 61 else AA (nR r 3 / 2^(18-6*j))
def nw (r:Bs) (j:Nat):Bs:=(List.range j).map (FJ r)
theorem Ae (r:Bs) (j:Nat):nw r (j+1)=nw r j++[FJ r j]:=by
 unfold nw;rw[List.range_succ,List.map_append];rfl
theorem Ek (r:Bs) (h:r≠[]):jg r=nw r 4++jg (r.drop 3):=by
 match r,h with
 | [a],_=>
   have e:nR [a] 3=a.toNat*65536:=by simp[nR];omega
   simp[jg,na,nw,FJ,e,List.range,List.range.loop]
 | [a,b],_=>
   have e:nR [a,b] 3=a.toNat*65536+b.toNat*256:=by simp[nR];omega
   simp[jg,na,nw,FJ,e,List.range,List.range.loop]
 | a::b::c::r,_=>
   have e:nR (a::b::c::r) 3=a.toNat*65536+b.toNat*256+c.toNat:=by simp[nR];omega
   have h2:¬(a::b::c::r).length<2:=by simp
   have h3:¬(a::b::c::r).length<3:=by simp
   have h1:¬(a::b::c::r).length<1:=by simp
   have h0:¬(a::b::c::r).length<0:=by simp
   rw[jg];unfold nw;simp only[List.range,List.range.loop,List.map_cons,List.map_nil];unfold FJ;rw[if_neg h0,if_neg h1,if_neg h2,if_neg h3,e]
   simp[na]
theorem qm:∀s:Bs,(jg s).length=(s.length+2) / 3*4
 | []=>rfl
 | [a]=>by simp[jg,na]
 | [a,b]=>by simp[jg,na]
 | a::b::c::r=>by
   have h:=qm r;rw[jg,List.length_append,h]
   simp[na]
   omega
theorem wz {s:Bs} {b:Option ag} {u:ag} (e:dg s b=.ok u):s.length<=4000/\gE s b=.ok u:=by
 unfold dg at e;split at e
 ·cases e
 ·refine⟨by omega,?_⟩;cases b with
  | none=>exact e
  | some x=>
    simp only at e;split at e
    ·exact e
    ·cases e
theorem tn {s:Bs} {u:ag} (e:dg s none=.ok u):wq u<=12120:=by
 obtain⟨h1,h2⟩:=wz e;have h3:=pu h2 (fun _ h=>by cases h);have h4:bq none=0:=rfl;omega
theorem Dz {s:Bs} {b:Option ag} {u:ag} (e:dg s b=.ok u) (hb:∀x,b=some x->∃t,dg t none=.ok x):wq u<=24240:=by
 cases b with
 | none=>have:=tn e;omega
 | some x=>
   obtain⟨t,ht⟩:=hb x rfl;obtain⟨h1,h2⟩:=wz e;have h3:=pu h2 (fun y h=>by cases h;exact qA ht);have h4:bq (some x)=wq x:=rfl;have h5:=tn ht;omega
theorem zB {s:Bs} {b:Option ag} {n:Nat} (e:dg s b=.er n):n=3\/n=2\/n=70\/n=71\/n=72\/n=81\/n=82:=by
 unfold dg at e;split at e
 ·injection e with e;omega
 ·cases b with
  | none=>have:=sX e;omega
  | some x=>
    simp only at e;split at e
    ·have:=sX e;omega
    ·injection e with e;omega
end Lz
namespace Go.Proofs.YtecoeebjaleeiaaGreatDoor
open Go.RowKit
attribute [local go_sem ↓] Go.wp_at_zero Go.wp_at_succ
theorem zN (s t:ByteArray) (hs:s.size<=140737488355328) (w:World):Calls Tryz.prog 42 #[.string s,.string t] w (aC (decide (Lz.low s.data.toList=Lz.low t.data.toList)) w):=by
 obtain⟨q,hq⟩:∃q,q=decide (Lz.low s.data.toList=Lz.low t.data.toList):=⟨_,rfl⟩;rw[<-hq];have Hq:=Ih hq;clear hq;by_cases hl:s.size=t.size
 ·have Z7:((s.size:Int) != (t.size:Int))=false:=by rw[hl];simp
  have Hl:=Ih hl;clear hl;go_enter Tryz.func42,Tryz.ntmps42
  go_wp2_with fail
  go_loopw [13] (fun k wr=>∃i:Nat,k=.int .i64 i/\i<=s.size/\Hid ((Lz.low s.data.toList).take i=(Lz.low t.data.toList).take i)/\Below w.heap.size w wr) (fun k _=>s.size-(intOf k).toNat)
  case atStart=>exact⟨0,rfl,Nat.zero_le _,Ih (by simp),Below.refl _ _⟩
  case round=>
   obtain⟨i,rfl,hi,hT,aK⟩:=hrel;by_cases aV:i<s.size
   ·have bW:(i:Int)<(s.size:Int):=by omega
    have oY:i<t.size:=by rw[<-Hl.out];exact aV
    have Jt:(i:Int)<(t.size:Int):=by omega
    have o9:(0:Int)<=(i:Int):=by omega
    obtain⟨a,ha⟩:∃a,a=s[i]:=⟨_,rfl⟩;obtain⟨b,hb⟩:∃b,b=t[i]:=⟨_,rfl⟩;have haI:(s[i].toNat:Int)=(a.toNat:Int):=by rw[ha]
    have hbI:(t[i].toNat:Int)=(b.toNat:Int):=by rw[hb]
    have bZ:(Lz.low s.data.toList).take (i+1)=(Lz.low s.data.toList).take i++[Lz.low1 a]/\(Lz.low t.data.toList).take (i+1)=(Lz.low t.data.toList).take i++[Lz.low1 b]:=by
     constructor
     ·rw[List.take_add_one,show(Lz.low s.data.toList)[i]? =some (Lz.low1 a) by unfold Lz.low;rw[List.getElem?_map,aB aV,ha];rfl];rfl
     ·rw[List.take_add_one,show(Lz.low t.data.toList)[i]? =some (Lz.low1 b) by unfold Lz.low;rw[List.getElem?_map,aB oY,hb];rfl];rfl
    have c1:=fun W=>sS a W;have c2:=fun W=>sS b W;have C1:Hid (∀W,Calls Tryz.prog 46 #[.int .u8 a.toNat] W fun e w'=>e=.returned (.int .u8 (Lz.low1 a).toNat)/\w'=W):=Ih (fun W=>(c1 W).mono fun _ _ ⟨h1,h2⟩=>⟨h1,h2.symm⟩);have C2:Hid (∀W,Calls Tryz.prog 46 #[.int .u8 b.toNat] W fun e w'=>e=.returned (.int .u8 (Lz.low1 b).toNat)/\w'=W):=Ih (fun W=>(c2 W).mono fun _ _ ⟨h1,h2⟩=>⟨h1,h2.symm⟩);have Yk:(((Lz.low1 a).toNat:Int) != ((Lz.low1 b).toNat:Int))= !(Lz.low1 a==Lz.low1 b):=by rw[bne,yR]
    clear ha hb c1 c2;by_cases he:Lz.low1 a=Lz.low1 b
    ·rw[beq_iff_eq.2 he]at Yk;have aco:(((Lz.low1 a).toNat:Int) != ((Lz.low1 b).toNat:Int))=false:=Yk;have AI:Hid ((Lz.low s.data.toList).take (i+1)=(Lz.low t.data.toList).take (i+1)):=by show _=_;rw[bZ.1,bZ.2,hT.out,he]
     clear he bZ hT Yk
     go_wp2_with fail
     go_quiet (first |(go_at_call_of 46 (Value.int .u8 (a.toNat:Int));exact Calls.quiet_of_same (C1.out _))|(go_at_call_of 46 (Value.int .u8 (b.toNat:Int));exact Calls.quiet_of_same (C2.out _)))
     have nW:Below w.heap.size w (wr.drewN nq):=below_drewN aK nq;generalize wr.drewN nq=wq at nW⊢
     go_wp2_with fail
     go_roundw
     case rel=>exact⟨i+1,by go_num,by omega,AI,nW⟩
     case measure=>simp[intOf];omega
    ·rw[beq_eq_false_iff_ne.2 he]at Yk;have aco:(((Lz.low1 a).toNat:Int) != ((Lz.low1 b).toNat:Int))=true:=Yk
     have HQ:Hid (q=false):=by
      show _=_;rw[Hq.out];refine decide_eq_false fun e=>he ?_;have h1:=congrArg (List.take (i+1)) e;rw[bZ.1,bZ.2,hT.out]at h1;simpa using List.append_cancel_left h1
     clear he bZ hT Yk
     go_wp2_with fail
     go_quiet (first |(go_at_call_of 46 (Value.int .u8 (a.toNat:Int));exact Calls.quiet_of_same (C1.out _))|(go_at_call_of 46 (Value.int .u8 (b.toNat:Int));exact Calls.quiet_of_same (C2.out _)))
     have nW:Below w.heap.size w (wr.drewN nq):=below_drewN aK nq;generalize wr.drewN nq=wq at nW⊢
     go_wp2_with fail
     go_ret;exact⟨by rw[HQ.out];rfl,nW⟩
   ·have bW:¬(i:Int)<(s.size:Int):=by omega
    have HQ:Hid (q=true):=by
     show _=_;rw[Hq.out];refine decide_eq_true ?_;have h1:=hT.out;rw[List.take_of_length_le (by rw[ij,aa];omega),List.take_of_length_le (by rw[ij,aa];have:=Hl.out;omega)]at h1;exact h1
    clear hT
    go_wp2_with fail
    go_ret;exact⟨by rw[HQ.out];rfl,aK⟩
 ·have Z7:((s.size:Int) != (t.size:Int))=true:=by simp;omega
  have HQ:Hid (q=false):=by
   show _=_;rw[Hq.out];refine decide_eq_false fun e=>hl ?_;have:=congrArg List.length e;rw[ij,ij,aa,aa]at this;exact this
  clear hl;go_enter Tryz.func42,Tryz.ntmps42
  go_wp2_with fail
  go_ret;exact⟨by rw[HQ.out];rfl,Below.refl _ _⟩
theorem zI (v:Value) (l:List (List UInt8)) (w:World) (h:bd w v l) (hL:l.length<=1000000) (hZ:∀x,x∈l->x.length<=140737488355328):Calls Tryz.prog 71 #[v] w (aC (Lz.jf l) w):=by
 obtain⟨a,c,xs,rfl,rfl,hx⟩:=h
 match xs,hx,hZ,hL with
 | [],_,_,_=>
   have HV:Hid (Lz.jf (([]:List ByteArray).map fun x:ByteArray=>x.data.toList)=true):=rfl;go_enter Tryz.func71,Tryz.ntmps71
   go_wp2_with fail
   go_ret;exact⟨by rw[HV.out];rfl,Below.refl _ _⟩
 | [x],hx,hZ,_=>
   obtain⟨B,off,rfl,hB,hc⟩:=hx 0 x rfl;rw[Nat.add_zero]at hc;have T8:x.size<=140737488355328:=by rw[<-aa];exact hZ _ (by simp)
   obtain⟨q,hq⟩:∃q,q=decide (Lz.low x.data.toList=Lz.uw):=⟨_,rfl⟩
   have HV:Hid (Lz.jf ([x].map fun x:ByteArray=>x.data.toList)=q):=by
    show _=_;rw[hq];show(false||(true&&(Lz.low x.data.toList==Lz.uw)))=_;rw[Bool.false_or,Bool.true_and,Bool.eq_iff_iff];simp
   have cS:Hid (Calls Tryz.prog 42 #[.string x,.string ⟨#[39,110,111,110,101,39]⟩] w (aC q w)):=Ih (by
    have:=zN x ⟨#[39,110,111,110,101,39]⟩ T8 w;rw[show Lz.low (⟨#[39,110,111,110,101,39]⟩:ByteArray).data.toList=Lz.uw by decide,<-hq]at this;exact this)
   clear hx hq hZ;go_enter Tryz.func71,Tryz.ntmps71
   go_wp2_with fail
   refine cS.out.mono ?_;rintro e w5 ⟨rfl,aI⟩
   go_wp2_with fail
   go_ret;exact⟨by rw[HV.out];rfl,aI⟩
 | x::y::r,hx,_,hL=>
   have HV:Hid (Lz.jf ((x::y::r).map fun x:ByteArray=>x.data.toList)=false):=rfl;obtain⟨n,hn⟩:∃n,n=(x::y::r).length:=⟨_,rfl⟩;have pZ:2<=n:=by rw[hn,List.length_cons,List.length_cons];omega
   have e0:((n:Int)==0)=false:=beq_eq_false_iff_ne.2 (by omega);have e1:((n:Int)==1)=false:=beq_eq_false_iff_ne.2 (by omega);rw[<-hn];clear hx hn hL;go_enter Tryz.func71,Tryz.ntmps71
   go_wp2_with fail
   go_ret;exact⟨by rw[HV.out];rfl,Below.refl _ _⟩
end Go.Proofs.YtecoeebjaleeiaaGreatDoor
namespace Lz
open Go
def jI:Bs->List Bs
 | []=>[[]]
 | c::r=>if re c then[]::jI r else match jI r with
   | []=>[[c]]
   | h::t=>(c::h)::t
theorem Q0:∀l:Bs,jI l≠[]
 | []=>by simp[jI]
 | c::r=>by
   rw[jI];split
   ·simp
   ·split<;>simp
theorem sP (c:UInt8):∀l:Bs,jI (l++[c])=if re c then jI l++[[]]else(jI l).dropLast++[(jI l).getLastD []++[c]]
 | []=>by
   by_cases h:re c=true
   ·rw[if_pos h];simp[jI,h]
   ·rw[if_neg h];simp[jI,h]
 | b::r=>by
   have ih:=sP c r
   obtain⟨h,t,hr⟩:∃h t,jI r=h::t:=by
    cases e:jI r with
    | nil=>exact absurd e (Q0 r)
    | cons h t=>exact⟨h,t,rfl⟩
   rw[List.cons_append,jI,ih,hr];rw[show jI (b::r)=if re b then[]::jI r else match jI r with|[]=>[[b]]|h::t=>(b::h)::t from jI.eq_2 b r,hr];by_cases hb:re b=true
   ·rw[if_pos hb,if_pos hb];by_cases hc:re c=true
    ·rw[if_pos hc,if_pos hc];rfl
    ·rw[if_neg hc,if_neg hc]
     simp[List.dropLast,List.getLastD]
   ·rw[if_neg hb,if_neg hb];by_cases hc:re c=true
    ·rw[if_pos hc,if_pos hc];rfl
    ·rw[if_neg hc,if_neg hc];cases t with
     | nil=>simp
     | cons x y=>simp[List.dropLast,List.getLastD]
def aG (s:Bs):List Bs:=(jI s).filter fun w=> !w.isEmpty
structure xw (l:Bs) (D:List Bs) (dB:Bs):Prop where
 seg:jI l=D++[dB]
 tail:∃pre,l=pre++dB
theorem JU:xw [] [] []:=⟨rfl,[],rfl⟩
theorem KU {l:Bs} {D:List Bs} {dB:Bs} {c:UInt8} (h:xw l D dB) (hc:re c=true):xw (l++[c]) (D++[dB]) []:=
 ⟨by rw[sP,if_pos hc,h.seg],l++[c],by simp⟩
theorem NH {l:Bs} {D:List Bs} {dB:Bs} {c:UInt8} (h:xw l D dB) (hc:re c=false):xw (l++[c]) D (dB++[c]):=
 ⟨by rw[sP,if_neg (by rw[hc];simp),h.seg];simp,by obtain⟨pre,e⟩:=h.tail;exact⟨pre,by rw[e,List.append_assoc]⟩⟩
theorem R5 {l:Bs} {D:List Bs} {dB:Bs} (h:xw l D dB):aG l=(D.filter fun w=> !w.isEmpty)++(if dB.isEmpty then[]else[dB]):=by
 unfold aG;rw[h.seg,List.filter_append];cases dB<;>rfl
structure il where
 name:Bs
 vals:List Bs
 deriving DecidableEq
structure kW where
 list:List il
 rep:Bool
structure ji where
 kind:Int
 node:Int
 attr:Bs
 url:Bs
 text:Bs
 nonce:Bs
 integ:Bs
 deriving DecidableEq
def dK:Bs:=[115,99,114,105,112,116,45,115,114,99]
def vX:Bs:=[45,101,108,101,109]
def IW:Bs:=[45,97,116,116,114]
def qD:Bs:=[115,116,121,108,101,45,115,114,99]
def UB:Bs:=[99,104,105,108,100,45,115,114,99]
def kS:Bs:=[100,101,102,97,117,108,116,45,115,114,99]
def NB:Bs:=[98,97,115,101,45,117,114,105]
def Mr:Bs:=[102,111,114,109,45,97,99,116,105,111,110]
def Nu:Bs:=[102,114,97,109,101,45,115,114,99]
def jq:Bs:=[114,101,113,117,105,114,101,45,116,114,117,115,116,101,100,45,116,121,112,101,115,45,102,111,114]
def ni:Bs:=[39,115,99,114,105,112,116,39]
def qE:List Bs:=[[],dK++vX,dK++vX,dK++IW,dK++vX,qD++vX,qD++vX,qD++IW,
 [105,109,103,45,115,114,99],[102,111,110,116,45,115,114,99],[109,101,100,105,97,45,115,114,99],Nu,
 [111,98,106,101,99,116,45,115,114,99],[109,97,110,105,102,101,115,116,45,115,114,99],[99,111,110,110,101,99,116,45,115,114,99],NB,Mr]
def wo (k:Int):Bs:=if k<0\/17<=k then[]else qE.getD k.toNat []
def fD (k:Nat):List Bs:=
 match k with
 | 1|2|4=>[dK++vX,dK,kS]
 | 3=>[dK++IW,dK,kS]
 | 5|6=>[qD++vX,qD,kS]
 | 7=>[qD++IW,qD,kS]
 | 11=>[Nu,UB,kS]
 | 15=>[NB]
 | 16=>[Mr]
 | k=>[qE.getD k [],kS]
def gX (jS:List il) (part:Bs):List il:=
 match aG part with
 | []=>jS
 | w::r=>if jS.any (fun d=>d.name==low w)=true then jS else jS++[⟨low w,r⟩]
def BM (s:Bs):List il:=(av 59 s).foldl gX []
def iv (l:List il) (n:Bs):Option il:=l.find? fun d=>d.name==n
def fZ (l:List il) (k:Int):Option il:=if 1<=k/\k<=16 then((fD k.toNat).find? fun n=>(iv l n).isSome).bind (iv l)else none
def eC (l:List il):Bool:=
 match iv l jq with
 | some d=>d.vals.any fun s=>low s==ni
 | none=>false
def fR (k:Int):Int:=if k=2 then 1 else if k=3 then 2 else if k=4 then 3 else if k=6 then 4 else if k=7 then 5 else 0
def me (aR:Bs->List Bs) (vs:List Bs) (x:ji) (own:ag):Bool:=
 match dg x.url none with
 | .ok u=>if x.kind=1 then qv aR vs u own x.nonce x.integ else if(x.kind==5&&(!jf vs&&iE vs x.nonce))=true then true else anyM u vs own false
 | .er _=>false
def fL (sum:Int->Bs->Bs) (aR:Bs->List Bs) (vs:List Bs) (x:ji) (own:ag):Bool:=
 if fR x.kind=0 then me aR vs x own else gv sum (fR x.kind) vs x.nonce x.text
def dH (sum:Int->Bs->Bs) (aR:Bs->List Bs) (l:List il) (x:ji) (own:ag):Option Bs:=
 match fZ l x.kind with
 | some d=>if fL sum aR d.vals x own=true then(if(x.kind==4&&eC l)=true then some jq else none)else some d.name
 | none=>if(x.kind==4&&eC l)=true then some jq else none
structure uT where
 pol:Nat
 dir:Bs
 rep:Bool
 deriving DecidableEq
def bt (f:kW->Option Bs):Nat->List kW->List uT
 | _,[]=>[]
 | i,p::r=>
   match f p with
   | some d=>⟨i,d,p.rep⟩::bt f (i+1) r
   | none=>bt f (i+1) r
def Ey (s:Int×Bs) (v:uT):Int×Bs:=if v.rep=false/\s.1≠2 then(2,v.dir)else if v.rep=true/\s.1=1 then(3,s.2)else s
def dj (l:List uT):Int×Bs:=l.foldl Ey (1,[])
theorem oG (f:kW->Option Bs):∀(l r:List kW) (i:Nat),bt f i (l++r)=bt f i l++bt f (i+l.length) r
 | [],r,i=>by simp[bt]
 | p::l,r,i=>by
   simp only[List.cons_append,bt,List.length_cons];rw[oG f l r (i+1),show i+1+l.length=i+(l.length+1) by omega];cases f p<;>rfl
theorem tQ (f:kW->Option Bs):∀(l:List kW) (i:Nat),(bt f i l).length<=l.length
 | [],i=>by simp[bt]
 | p::l,i=>by
   have:=tQ f l (i+1);unfold bt;cases f p<;>simp<;>omega
theorem mV (l:List uT) (v:uT):dj (l++[v])=Ey (dj l) v:=by simp[dj]
end Lz
namespace Go.Proofs.YtecoeebjaleeiaaGreatDoor
open Go.RowKit
attribute [local go_sem ↓] Go.wp_at_zero Go.wp_at_succ
theorem jK {w:World} {B:Nat} {v:Value} {xs:List ByteArray} (h:w.ownsRow B 9 1 v xs.length (xs.map Value.string)):bd w v (xs.map (fun x:ByteArray=>x.data.toList)):=by
 obtain⟨a,c,e,_,hc⟩:=aL.form (Or.inl h);exact⟨a,c,xs,e,rfl,hc⟩
theorem om (w:World) (xs:List ByteArray):bd (w.alloc (.cells (xs.map Value.string).toArray 9)) (.slice (some ⟨w.heap.size,0,none⟩) xs.length xs.length) (xs.map (fun x:ByteArray=>x.data.toList)):=
 ⟨some ⟨w.heap.size,0,none⟩,xs.length,xs,rfl,rfl,fun j y hj=>⟨w.heap.size,0,rfl,by simp,by
  rw[Nat.zero_add];exact rowAt (ah w _) j (.string y) (by rw[List.getElem?_toArray,List.getElem?_map,hj];rfl)⟩⟩
def iL (l:List (List UInt8)) (w:World) (e:Ending) (w':World):Prop:=∃v,e=.returned v/\bd w' v l/\(∀G off n c,v=.slice (some ⟨G,off,none⟩) n c->w.heap.size<=G)/\Below w.heap.size w w'
theorem jL {w:World} {B:Nat} {v:Value} {n0:Nat} {xs:List Value} (h:w.ownsRow B 9 1 v n0 xs):∀G off n c,v=.slice (some ⟨G,off,none⟩) n c->B<=G:=by
 intro G off n c e;rcases h.2 with⟨rfl,_⟩|⟨g,cap,dB,rfl,hgb,_⟩
 ·cases e
 ·cases e;exact hgb
theorem ir (w:World) (a b:Value) (T:TypeId):∀j u,[a,b][j]? =some u->(w.alloc (.cells #[a,b] T)).cell? ((⟨w.heap.size,0,none⟩:Addr).add j)=some u:=fun j u hj=>by
 rw[bV];exact rowAt (ah w _) j u (by rw[<-hj];simp)
theorem g8 (w:World):Calls Tryz.prog 34 #[.string ⟨#[115,99,114,105,112,116,45,115,114,99,45,101,108,101,109]⟩] w (iL (Lz.fD 1) w):=by
 obtain⟨i0,hi,fI,ei,eM⟩:=info_parts fS;have h0:w.ownsRow w.heap.size 9 1 (.slice none 0 0) 0 []:=World.ownsRow_nil _ _ _ _;go_enter Tryz.func34,Tryz.ntmps34
 go_wp2_with (at_builtin;refine wpList_append_own _ rfl (.tmp 26) (.tmp 28) 30 rfl w.heap.size 9 i0 (.string ⟨#[]⟩) 1 16 Tryz.underlying30 hi fI ei eM rfl (by decide) _ 0 [] rfl (World.ownsRow_nil _ _ _ _) ⟨w.heap.size,0,none⟩ 1 1 [.string ⟨#[115,99,114,105,112,116,45,115,114,99,45,101,108,101,109]⟩] rfl rfl (bD _ _ _) (by simp[Value.oneCell']) (by unfold maxLen;omega) (by omega) (by simp) ?_)
 intro v1 w1 dA pF _;have ar:=Below.grown1 (Below.refl _ w) h0 pF (Nat.le_refl _) (Nat.le_refl _);have gV:=Ih dA;have Wc:=ar.size;clear dA pF h0
 go_wp2_with (at_builtin;refine wpList_append_own _ rfl (.tmp 30) (.tmp 32) 30 rfl w.heap.size 9 i0 (.string ⟨#[]⟩) 1 16 Tryz.underlying30 hi fI ei eM rfl (by decide) _ _ _ rfl (gV.out.alloc _) ⟨w1.heap.size,0,none⟩ 2 2 [.string ⟨#[115,99,114,105,112,116,45,115,114,99]⟩,.string ⟨#[100,101,102,97,117,108,116,45,115,114,99]⟩] rfl rfl (ir _ _ _ _) (by simp[Value.oneCell']) (by unfold maxLen;omega) (by omega) (by simp;omega) ?_)
 intro v2 w2 dJ zl _;have az:=Below.grown1 ar gV.out zl Wc (Nat.le_refl _);have HP:=Ih (jK (xs:=[⟨#[115,99,114,105,112,116,45,115,114,99,45,101,108,101,109]⟩,⟨#[115,99,114,105,112,116,45,115,114,99]⟩,⟨#[100,101,102,97,117,108,116,45,115,114,99]⟩]) dJ);have HF:=Ih (jL dJ);clear dJ zl
 go_wp2_with fail
 go_ret;exact⟨_,rfl,HP.out,HF.out,az⟩
theorem qy (w:World):Calls Tryz.prog 34 #[.string ⟨#[115,99,114,105,112,116,45,115,114,99,45,97,116,116,114]⟩] w (iL (Lz.fD 3) w):=by
 obtain⟨i0,hi,fI,ei,eM⟩:=info_parts fS;have h0:w.ownsRow w.heap.size 9 1 (.slice none 0 0) 0 []:=World.ownsRow_nil _ _ _ _;go_enter Tryz.func34,Tryz.ntmps34
 go_wp2_with (at_builtin;refine wpList_append_own _ rfl (.tmp 26) (.tmp 28) 30 rfl w.heap.size 9 i0 (.string ⟨#[]⟩) 1 16 Tryz.underlying30 hi fI ei eM rfl (by decide) _ 0 [] rfl (World.ownsRow_nil _ _ _ _) ⟨w.heap.size,0,none⟩ 1 1 [.string ⟨#[115,99,114,105,112,116,45,115,114,99,45,97,116,116,114]⟩] rfl rfl (bD _ _ _) (by simp[Value.oneCell']) (by unfold maxLen;omega) (by omega) (by simp) ?_)
 intro v1 w1 dA pF _;have ar:=Below.grown1 (Below.refl _ w) h0 pF (Nat.le_refl _) (Nat.le_refl _);have gV:=Ih dA;have Wc:=ar.size;clear dA pF h0
 go_wp2_with (at_builtin;refine wpList_append_own _ rfl (.tmp 30) (.tmp 32) 30 rfl w.heap.size 9 i0 (.string ⟨#[]⟩) 1 16 Tryz.underlying30 hi fI ei eM rfl (by decide) _ _ _ rfl (gV.out.alloc _) ⟨w1.heap.size,0,none⟩ 2 2 [.string ⟨#[115,99,114,105,112,116,45,115,114,99]⟩,.string ⟨#[100,101,102,97,117,108,116,45,115,114,99]⟩] rfl rfl (ir _ _ _ _) (by simp[Value.oneCell']) (by unfold maxLen;omega) (by omega) (by simp;omega) ?_)
 intro v2 w2 dJ zl _;have az:=Below.grown1 ar gV.out zl Wc (Nat.le_refl _);have HP:=Ih (jK (xs:=[⟨#[115,99,114,105,112,116,45,115,114,99,45,97,116,116,114]⟩,⟨#[115,99,114,105,112,116,45,115,114,99]⟩,⟨#[100,101,102,97,117,108,116,45,115,114,99]⟩]) dJ);have HF:=Ih (jL dJ);clear dJ zl
 go_wp2_with fail
 go_ret;exact⟨_,rfl,HP.out,HF.out,az⟩
theorem lK (w:World):Calls Tryz.prog 34 #[.string ⟨#[115,116,121,108,101,45,115,114,99,45,101,108,101,109]⟩] w (iL (Lz.fD 5) w):=by
 go_enter Tryz.func34,Tryz.ntmps34
 go_wp2_with fail
 go_ret;exact⟨_,rfl,om w [⟨#[115,116,121,108,101,45,115,114,99,45,101,108,101,109]⟩,⟨#[115,116,121,108,101,45,115,114,99]⟩,⟨#[100,101,102,97,117,108,116,45,115,114,99]⟩],(fun G off n c e=>by cases e;exact Nat.le_refl _),(Below.refl _ _).alloc (Nat.le_refl _) _⟩
theorem ru (w:World):Calls Tryz.prog 34 #[.string ⟨#[115,116,121,108,101,45,115,114,99,45,97,116,116,114]⟩] w (iL (Lz.fD 7) w):=by
 go_enter Tryz.func34,Tryz.ntmps34
 go_wp2_with fail
 go_ret;exact⟨_,rfl,om w [⟨#[115,116,121,108,101,45,115,114,99,45,97,116,116,114]⟩,⟨#[115,116,121,108,101,45,115,114,99]⟩,⟨#[100,101,102,97,117,108,116,45,115,114,99]⟩],(fun G off n c e=>by cases e;exact Nat.le_refl _),(Below.refl _ _).alloc (Nat.le_refl _) _⟩
theorem F9 (w:World):Calls Tryz.prog 34 #[.string ⟨#[105,109,103,45,115,114,99]⟩] w (iL (Lz.fD 8) w):=by
 obtain⟨i0,hi,fI,ei,eM⟩:=info_parts fS;have h0:w.ownsRow w.heap.size 9 1 (.slice none 0 0) 0 []:=World.ownsRow_nil _ _ _ _;go_enter Tryz.func34,Tryz.ntmps34
 go_wp2_with (at_builtin;refine wpList_append_own _ rfl (.tmp 30) (.tmp 32) 30 rfl w.heap.size 9 i0 (.string ⟨#[]⟩) 1 16 Tryz.underlying30 hi fI ei eM rfl (by decide) _ 0 [] rfl (World.ownsRow_nil _ _ _ _) ⟨w.heap.size,0,none⟩ 2 2 [.string ⟨#[105,109,103,45,115,114,99]⟩,.string ⟨#[100,101,102,97,117,108,116,45,115,114,99]⟩] rfl rfl (ir _ _ _ _) (by simp[Value.oneCell']) (by unfold maxLen;omega) (by omega) (by simp) ?_)
 intro v1 w1 dA pF _;have ar:=Below.grown1 (Below.refl _ w) h0 pF (Nat.le_refl _) (Nat.le_refl _);have HP:=Ih (jK (xs:=[⟨#[105,109,103,45,115,114,99]⟩,⟨#[100,101,102,97,117,108,116,45,115,114,99]⟩]) dA);have HF:=Ih (jL dA);clear dA pF h0
 go_wp2_with fail
 go_ret;exact⟨_,rfl,HP.out,HF.out,ar⟩
theorem DM (w:World):Calls Tryz.prog 34 #[.string ⟨#[102,111,110,116,45,115,114,99]⟩] w (iL (Lz.fD 9) w):=by
 obtain⟨i0,hi,fI,ei,eM⟩:=info_parts fS;have h0:w.ownsRow w.heap.size 9 1 (.slice none 0 0) 0 []:=World.ownsRow_nil _ _ _ _;go_enter Tryz.func34,Tryz.ntmps34
 go_wp2_with (at_builtin;refine wpList_append_own _ rfl (.tmp 30) (.tmp 32) 30 rfl w.heap.size 9 i0 (.string ⟨#[]⟩) 1 16 Tryz.underlying30 hi fI ei eM rfl (by decide) _ 0 [] rfl (World.ownsRow_nil _ _ _ _) ⟨w.heap.size,0,none⟩ 2 2 [.string ⟨#[102,111,110,116,45,115,114,99]⟩,.string ⟨#[100,101,102,97,117,108,116,45,115,114,99]⟩] rfl rfl (ir _ _ _ _) (by simp[Value.oneCell']) (by unfold maxLen;omega) (by omega) (by simp) ?_)
 intro v1 w1 dA pF _;have ar:=Below.grown1 (Below.refl _ w) h0 pF (Nat.le_refl _) (Nat.le_refl _);have HP:=Ih (jK (xs:=[⟨#[102,111,110,116,45,115,114,99]⟩,⟨#[100,101,102,97,117,108,116,45,115,114,99]⟩]) dA);have HF:=Ih (jL dA);clear dA pF h0
 go_wp2_with fail
 go_ret;exact⟨_,rfl,HP.out,HF.out,ar⟩
theorem BW (w:World):Calls Tryz.prog 34 #[.string ⟨#[109,101,100,105,97,45,115,114,99]⟩] w (iL (Lz.fD 10) w):=by
 obtain⟨i0,hi,fI,ei,eM⟩:=info_parts fS;have h0:w.ownsRow w.heap.size 9 1 (.slice none 0 0) 0 []:=World.ownsRow_nil _ _ _ _;go_enter Tryz.func34,Tryz.ntmps34
 go_wp2_with (at_builtin;refine wpList_append_own _ rfl (.tmp 30) (.tmp 32) 30 rfl w.heap.size 9 i0 (.string ⟨#[]⟩) 1 16 Tryz.underlying30 hi fI ei eM rfl (by decide) _ 0 [] rfl (World.ownsRow_nil _ _ _ _) ⟨w.heap.size,0,none⟩ 2 2 [.string ⟨#[109,101,100,105,97,45,115,114,99]⟩,.string ⟨#[100,101,102,97,117,108,116,45,115,114,99]⟩] rfl rfl (ir _ _ _ _) (by simp[Value.oneCell']) (by unfold maxLen;omega) (by omega) (by simp) ?_)
 intro v1 w1 dA pF _;have ar:=Below.grown1 (Below.refl _ w) h0 pF (Nat.le_refl _) (Nat.le_refl _);have HP:=Ih (jK (xs:=[⟨#[109,101,100,105,97,45,115,114,99]⟩,⟨#[100,101,102,97,117,108,116,45,115,114,99]⟩]) dA);have HF:=Ih (jL dA);clear dA pF h0
 go_wp2_with fail
 go_ret;exact⟨_,rfl,HP.out,HF.out,ar⟩
theorem AU (w:World):Calls Tryz.prog 34 #[.string ⟨#[102,114,97,109,101,45,115,114,99]⟩] w (iL (Lz.fD 11) w):=by
 go_enter Tryz.func34,Tryz.ntmps34
 go_wp2_with fail
 go_ret;exact⟨_,rfl,om w [⟨#[102,114,97,109,101,45,115,114,99]⟩,⟨#[99,104,105,108,100,45,115,114,99]⟩,⟨#[100,101,102,97,117,108,116,45,115,114,99]⟩],(fun G off n c e=>by cases e;exact Nat.le_refl _),(Below.refl _ _).alloc (Nat.le_refl _) _⟩
theorem yI (w:World):Calls Tryz.prog 34 #[.string ⟨#[111,98,106,101,99,116,45,115,114,99]⟩] w (iL (Lz.fD 12) w):=by
 obtain⟨i0,hi,fI,ei,eM⟩:=info_parts fS;have h0:w.ownsRow w.heap.size 9 1 (.slice none 0 0) 0 []:=World.ownsRow_nil _ _ _ _;go_enter Tryz.func34,Tryz.ntmps34
 go_wp2_with (at_builtin;refine wpList_append_own _ rfl (.tmp 30) (.tmp 32) 30 rfl w.heap.size 9 i0 (.string ⟨#[]⟩) 1 16 Tryz.underlying30 hi fI ei eM rfl (by decide) _ 0 [] rfl (World.ownsRow_nil _ _ _ _) ⟨w.heap.size,0,none⟩ 2 2 [.string ⟨#[111,98,106,101,99,116,45,115,114,99]⟩,.string ⟨#[100,101,102,97,117,108,116,45,115,114,99]⟩] rfl rfl (ir _ _ _ _) (by simp[Value.oneCell']) (by unfold maxLen;omega) (by omega) (by simp) ?_)
 intro v1 w1 dA pF _;have ar:=Below.grown1 (Below.refl _ w) h0 pF (Nat.le_refl _) (Nat.le_refl _);have HP:=Ih (jK (xs:=[⟨#[111,98,106,101,99,116,45,115,114,99]⟩,⟨#[100,101,102,97,117,108,116,45,115,114,99]⟩]) dA);have HF:=Ih (jL dA);clear dA pF h0
 go_wp2_with fail
 go_ret;exact⟨_,rfl,HP.out,HF.out,ar⟩
theorem uZ (w:World):Calls Tryz.prog 34 #[.string ⟨#[109,97,110,105,102,101,115,116,45,115,114,99]⟩] w (iL (Lz.fD 13) w):=by
 obtain⟨i0,hi,fI,ei,eM⟩:=info_parts fS;have h0:w.ownsRow w.heap.size 9 1 (.slice none 0 0) 0 []:=World.ownsRow_nil _ _ _ _;go_enter Tryz.func34,Tryz.ntmps34
 go_wp2_with (at_builtin;refine wpList_append_own _ rfl (.tmp 30) (.tmp 32) 30 rfl w.heap.size 9 i0 (.string ⟨#[]⟩) 1 16 Tryz.underlying30 hi fI ei eM rfl (by decide) _ 0 [] rfl (World.ownsRow_nil _ _ _ _) ⟨w.heap.size,0,none⟩ 2 2 [.string ⟨#[109,97,110,105,102,101,115,116,45,115,114,99]⟩,.string ⟨#[100,101,102,97,117,108,116,45,115,114,99]⟩] rfl rfl (ir _ _ _ _) (by simp[Value.oneCell']) (by unfold maxLen;omega) (by omega) (by simp) ?_)
 intro v1 w1 dA pF _;have ar:=Below.grown1 (Below.refl _ w) h0 pF (Nat.le_refl _) (Nat.le_refl _);have HP:=Ih (jK (xs:=[⟨#[109,97,110,105,102,101,115,116,45,115,114,99]⟩,⟨#[100,101,102,97,117,108,116,45,115,114,99]⟩]) dA);have HF:=Ih (jL dA);clear dA pF h0
 go_wp2_with fail
 go_ret;exact⟨_,rfl,HP.out,HF.out,ar⟩
theorem wm (w:World):Calls Tryz.prog 34 #[.string ⟨#[99,111,110,110,101,99,116,45,115,114,99]⟩] w (iL (Lz.fD 14) w):=by
 obtain⟨i0,hi,fI,ei,eM⟩:=info_parts fS;have h0:w.ownsRow w.heap.size 9 1 (.slice none 0 0) 0 []:=World.ownsRow_nil _ _ _ _;go_enter Tryz.func34,Tryz.ntmps34
 go_wp2_with (at_builtin;refine wpList_append_own _ rfl (.tmp 30) (.tmp 32) 30 rfl w.heap.size 9 i0 (.string ⟨#[]⟩) 1 16 Tryz.underlying30 hi fI ei eM rfl (by decide) _ 0 [] rfl (World.ownsRow_nil _ _ _ _) ⟨w.heap.size,0,none⟩ 2 2 [.string ⟨#[99,111,110,110,101,99,116,45,115,114,99]⟩,.string ⟨#[100,101,102,97,117,108,116,45,115,114,99]⟩] rfl rfl (ir _ _ _ _) (by simp[Value.oneCell']) (by unfold maxLen;omega) (by omega) (by simp) ?_)
 intro v1 w1 dA pF _;have ar:=Below.grown1 (Below.refl _ w) h0 pF (Nat.le_refl _) (Nat.le_refl _);have HP:=Ih (jK (xs:=[⟨#[99,111,110,110,101,99,116,45,115,114,99]⟩,⟨#[100,101,102,97,117,108,116,45,115,114,99]⟩]) dA);have HF:=Ih (jL dA);clear dA pF h0
 go_wp2_with fail
 go_ret;exact⟨_,rfl,HP.out,HF.out,ar⟩
theorem Ew (w:World):Calls Tryz.prog 34 #[.string ⟨#[98,97,115,101,45,117,114,105]⟩] w (iL (Lz.fD 15) w):=by
 go_enter Tryz.func34,Tryz.ntmps34
 go_wp2_with fail
 go_ret;exact⟨_,rfl,om w [⟨#[98,97,115,101,45,117,114,105]⟩],(fun G off n c e=>by cases e;exact Nat.le_refl _),(Below.refl _ _).alloc (Nat.le_refl _) _⟩
theorem xX (w:World):Calls Tryz.prog 34 #[.string ⟨#[102,111,114,109,45,97,99,116,105,111,110]⟩] w (iL (Lz.fD 16) w):=by
 go_enter Tryz.func34,Tryz.ntmps34
 go_wp2_with fail
 go_ret;exact⟨_,rfl,om w [⟨#[102,111,114,109,45,97,99,116,105,111,110]⟩],(fun G off n c e=>by cases e;exact Nat.le_refl _),(Below.refl _ _).alloc (Nat.le_refl _) _⟩
def xL (w:World):Prop:=1<w.heap.size/\∀i,i<17->w.cell? ⟨1,i,none⟩=some (.string ⟨(Lz.qE.getD i []).toArray⟩)
theorem xL.below {w w':World} (h:xL w) (hb:Below w.heap.size w w'):xL w':=⟨Nat.lt_of_lt_of_le h.1 hb.size,fun i hi=>by rw[hb.cell h.1];exact h.2 i hi⟩
theorem yH (k:Int) (w:World) (hE:xL w):Calls Tryz.prog 33 #[.int .i64 k] w fun e w'=>e=.returned (.string ⟨(Lz.wo k).toArray⟩)/\Below w.heap.size w w':=by
 have HE:=Ih hE;clear hE;by_cases h0:k<0
 ·have HV:Hid (Lz.wo k=[]):=Ih (by unfold Lz.wo;rw[if_pos (Or.inl h0)]);go_enter Tryz.func33,Tryz.ntmps33
  go_wp2_with fail
  go_ret;rw[HV.out];exact⟨rfl,Below.refl _ _⟩
 ·by_cases h1:17<=k
  ·have HV:Hid (Lz.wo k=[]):=Ih (by unfold Lz.wo;rw[if_pos (Or.inr h1)]);go_enter Tryz.func33,Tryz.ntmps33
   go_wp2_with fail
   go_ret;rw[HV.out];exact⟨rfl,Below.refl _ _⟩
  ·obtain⟨n,rfl⟩:∃n:Nat,k=(n:Int):=⟨k.toNat,by omega⟩;have hn:n<17:=by omega
   have WP:(n:Int)<17:=by omega
   have yd:(0:Int)<=(n:Int):=by omega
   have hc:=HE.out.2 n hn;have HV:Hid (Lz.wo (n:Int)=Lz.qE.getD n []):=Ih (by unfold Lz.wo;rw[if_neg (by omega)];rfl);generalize Lz.qE.getD n []=t at hc HV;go_enter Tryz.func33,Tryz.ntmps33
   go_wp2_with fail
   go_ret;rw[HV.out];exact⟨rfl,Below.refl _ _⟩
theorem KW (k:Nat) (h1:1<=k) (h2:k<=16) (w:World):Calls Tryz.prog 34 #[.string ⟨(Lz.qE.getD k []).toArray⟩] w (iL (Lz.fD k) w):=by
 match k,h1,h2 with
 | 1,_,_=>exact g8 w
 | 2,_,_=>exact g8 w
 | 3,_,_=>exact qy w
 | 4,_,_=>exact g8 w
 | 5,_,_=>exact lK w
 | 6,_,_=>exact lK w
 | 7,_,_=>exact ru w
 | 8,_,_=>exact F9 w
 | 9,_,_=>exact DM w
 | 10,_,_=>exact BW w
 | 11,_,_=>exact AU w
 | 12,_,_=>exact yI w
 | 13,_,_=>exact uZ w
 | 14,_,_=>exact wm w
 | 15,_,_=>exact Ew w
 | 16,_,_=>exact xX w
 | k+17,_,h=>omega
attribute [local go_sem ↓] Go.wp_at_zero Go.wp_at_succ
structure bJ where
 item:Int
 pol:Int
 dir:ByteArray
 rep:Bool
def bJ.row (x:bJ):List Value:=[.int .i64 x.item,.int .i64 x.pol,.string x.dir,.bool x.rep]
def bJ.src (x:bJ):Int×Int×List UInt8×Bool:=(x.item,x.pol,x.dir.data.toList,x.rep)
def j8 (w:World) (v:Value) (ys:List bJ):Prop:=∃(a:Option Addr) (c:Nat),v=.slice a ys.length c/\∀(j:Nat) (x:bJ),ys[j]? =some x->∃g off,a=some ⟨g,off,none⟩/\∀k u,x.row[k]? =some u->w.cell? ⟨g,off+j*4+k,none⟩=some u
theorem j8.below {w w':World} {v:Value} {ys:List bJ} (h:j8 w v ys) (hb:Below w.heap.size w w'):j8 w' v ys:=by
 obtain⟨a,c,h1,h2⟩:=h;refine⟨a,c,h1,fun j x hj=>?_⟩;obtain⟨g,off,e1,e2⟩:=h2 j x hj;exact⟨g,off,e1,fun k u hk=>(hb.cell (World.block_lt_of_cell? _ _ (e2 k u hk))).trans (e2 k u hk)⟩
def I8 (x y:bJ):Bool:=decide (x.src=y.src)
theorem RN (x y:bJ) (W:World):(binOp .neq 46 (.agg x.row.toArray) (.agg y.row.toArray)).run Tryz.prog W=.ok (.bool (!I8 x y)) W:=by
 obtain⟨i1,p1,d1,r1⟩:=x;obtain⟨i2,p2,d2,r2⟩:=y;unfold bJ.row
 dsimp only
 rw[run_neq_struct]
 have h:(Op.equalIn 10000 46 (.agg #[.int .i64 i1,.int .i64 p1,.string d1,.bool r1]) (.agg #[.int .i64 i2,.int .i64 p2,.string d2,.bool r2])).run Tryz.prog W=.ok (I8 ⟨i1,p1,d1,r1⟩ ⟨i2,p2,d2,r2⟩) W:=by
  unfold I8 bJ.src;go_simp;rw[Lib.toList_data,Lib.toList_data,show decide (d1.data=d2.data)=decide (d1.data.toList=d2.data.toList)from decide_eq_decide.2 Array.toList_inj.symm];by_cases h1:i1=i2<;>by_cases h2:p1=p2<;>by_cases h3:d1.data.toList=d2.data.toList<;>by_cases h4:r1=r2<;>simp[h1,h2,h3,h4]
 rw[h];rfl
def Li (xs ys:List bJ):Bool:=decide (xs.map bJ.src=ys.map bJ.src)
theorem K4 {α:Type} {l m:List α} {j:Nat} {x y:α} (h:l.take j=m.take j) (hx:l[j]? =some x) (hy:m[j]? =some y):l.take (j+1)=m.take (j+1)↔x=y:=by
 rw[List.take_add_one,List.take_add_one,hx,hy,h]
 simp
theorem kY (v1 v2:Value) (xs ys:List bJ) (w:World) (h1:j8 w v1 xs) (h2:j8 w v2 ys) (hl:xs.length<=1000):Calls Tryz.prog 10 #[v1,v2] w (aC (Li xs ys) w):=by
 obtain⟨a1,c1,rfl,hx⟩:=h1;obtain⟨a2,c2,rfl,hy⟩:=h2;obtain⟨R,hR⟩:∃R,R=Li xs ys:=⟨_,rfl⟩;rw[<-hR];unfold Li at hR;obtain⟨n,hn⟩:∃n,n=xs.length:=⟨_,rfl⟩;obtain⟨m,hm⟩:∃m,m=ys.length:=⟨_,rfl⟩;rw[<-hn,<-hm];rw[<-hn]at hl;have HX:=Ih hx;have HY:=Ih hy;have HR:=Ih hR;have HN:=Ih hn;have HM:=Ih hm;clear hx hy hR hn hm;by_cases qO:n=m
 ·subst qO;go_enter Tryz.func10,Tryz.ntmps10
  go_wp2_with fail
  go_loopw [5] (fun i wr=>∃j:Nat,j<=n/\i=.int .i64 (j:Int)/\Hid ((xs.map bJ.src).take j=(ys.map bJ.src).take j)/\Below w.heap.size w wr) (fun i _=>n-(intOf i).toNat)
  case atStart=>exact⟨0,Nat.zero_le _,rfl,Ih rfl,Below.refl _ _⟩
  case round=>
   obtain⟨j,hj,rfl,hT,aK⟩:=hrel;by_cases aV:j<n
   ·have bW:(j:Int)<(n:Int):=by omega
    have tM:(0:Int)<=(j:Int):=by omega
    have km:RowKit.wrap64 ((j:Int)+1)=(j:Int)+1:=by unfold RowKit.wrap64;omega
    obtain⟨x,hxj⟩:∃x,xs[j]? =some x:=⟨_,List.getElem?_eq_getElem (by rw[<-HN.out];exact aV)⟩;obtain⟨y,Yq⟩:∃y,ys[j]? =some y:=⟨_,List.getElem?_eq_getElem (by rw[<-HM.out];exact aV)⟩;obtain⟨g1,o1,rfl,e1⟩:=HX.out j x hxj;obtain⟨g2,o2,rfl,e2⟩:=HY.out j y Yq;have hS:=K4 hT.out (by rw[List.getElem?_map,hxj];rfl) (by rw[List.getElem?_map,Yq];rfl);have gW:(xs.map bJ.src)[j]? =some x.src:=by rw[List.getElem?_map,hxj];rfl
    have jV:(ys.map bJ.src)[j]? =some y.src:=by rw[List.getElem?_map,Yq];rfl
    obtain⟨q,hq⟩:∃q,q=I8 x y:=⟨_,rfl⟩;have hnq:∀W:World,(binOp .neq 46 (.agg x.row.toArray) (.agg y.row.toArray)).run Tryz.prog W=.ok (.bool (!q)) W:=fun W=>by rw[hq];exact RN x y W
    have HQ1:Hid (q=true->(xs.map bJ.src).take (j+1)=(ys.map bJ.src).take (j+1)):=Ih (fun h=>hS.2 (of_decide_eq_true (hq.symm.trans h)))
    have Ia:Hid (q=false->R=false):=Ih (fun h=>by
     rw[HR.out];refine decide_eq_false (fun he=>?_);have ed:x.src≠y.src:=of_decide_eq_false (hq.symm.trans h);rw[he]at gW;exact ed (Option.some.inj (gW.symm.trans jV)))
    obtain⟨i1,p1,d1,r1⟩:=x;obtain⟨i2,p2,d2,r2⟩:=y;have k0:=e1 0 _ rfl;rw[Nat.add_zero]at k0;have k1:=e1 1 _ rfl;have k2:=e1 2 _ rfl;have k3:=e1 3 _ rfl;have m0:=e2 0 _ rfl;rw[Nat.add_zero]at m0;have m1:=e2 1 _ rfl;have m2:=e2 2 _ rfl;have m3:=e2 3 _ rfl;clear e1 e2 hxj Yq hS gW jV hq hT;unfold bJ.row at hnq
    dsimp only at hnq k0 k1 k2 k3 m0 m1 m2 m3
    go_upto_region 6 with fail
    refine wp_region_held_drew (S:=fun U=>Below w.heap.size w U) (by kernel_rfl) aK.drew (fun ae=>?_);generalize wr.drew=W0 at ae⊢;apply TkG 0 17;apply TkG 1 18;apply TkG 2 19;apply TkG 3 20;apply TkG 4 21;apply TkG 5 22;apply TkG 6 23;apply TkG 7 24
    iterate 8 (rotate_right 2;(·(intro W aM;(try dsimp only at aM);have qk0:=(aM.cell (World.block_lt_of_cell? _ _ k0)).trans k0;have qk1:=(aM.cell (World.block_lt_of_cell? _ _ k1)).trans k1;have qk2:=(aM.cell (World.block_lt_of_cell? _ _ k2)).trans k2;have qk3:=(aM.cell (World.block_lt_of_cell? _ _ k3)).trans k3;have qm0:=(aM.cell (World.block_lt_of_cell? _ _ m0)).trans m0;have qm1:=(aM.cell (World.block_lt_of_cell? _ _ m1)).trans m1;have qm2:=(aM.cell (World.block_lt_of_cell? _ _ m2)).trans m2;have qm3:=(aM.cell (World.block_lt_of_cell? _ _ m3)).trans m3;(try simp only[Act.put]);(try simp only[List.setIfInBounds_toArray]);(try simp only[List.set_cons_zero,List.set_cons_succ]);go_simp;try with_reducible rfl)))
    (try simp only[Act.put]);(try simp only[List.setIfInBounds_toArray]);(try simp only[List.set_cons_zero,List.set_cons_succ])
    refine TkD 8 (some 25) (v:=.bool (!q)) rfl rfl ?_ ?_
    ·intro W aM;have hgu:Tryz.prog.eqGuardType Tryz.prog.depth 46=false:=by kernel_rfl
     simp[execOp,Act.eval,eqGuard,hgu,hnq]
    (try simp only[Act.put]);(try simp only[List.setIfInBounds_toArray]);(try simp only[List.set_cons_zero,List.set_cons_succ])
    refine wpAnyH_done (by kernel_rfl) ?_ _;clear k0 k1 k2 k3 m0 m1 m2 m3 hnq;cases q with
    | true=>
      have HS:=Ih (HQ1.out rfl);clear HQ1 Ia
      go_wp2_with fail
      go_roundw
      case rel=>exact⟨j+1,by omega,by (try rw[km]);rfl,HS,ae⟩
      case measure=>(try rw[km]);simp[intOf];omega
    | false=>
      have HV:=Ih (Ia.out rfl);clear HQ1 Ia
      go_wp2_with fail
      go_ret;exact⟨by rw[HV.out];rfl,ae⟩
   ·have bW:¬(j:Int)<(n:Int):=by omega
    have HV:Hid (R=true):=by
     show _=_;rw[HR.out];have h1:=hT.out;rw[List.take_of_length_le (by rw[List.length_map,<-HN.out];omega),List.take_of_length_le (by rw[List.length_map,<-HM.out];omega)]at h1;exact decide_eq_true h1
    clear hT
    go_wp2_with fail
    go_ret;exact⟨by rw[HV.out];rfl,aK⟩
 ·have ac7:¬(n:Int)=(m:Int):=by omega
  have HV:Hid (R=false):=by
   show _=_;rw[HR.out];refine decide_eq_false (fun he=>qO ?_);have:=congrArg List.length he;rw[List.length_map,List.length_map,<-HN.out,<-HM.out]at this;exact this
  clear qO;go_enter Tryz.func10,Tryz.ntmps10
  go_wp2_with fail
  go_ret;exact⟨by rw[HV.out];rfl,Below.refl _ _⟩
end Go.Proofs.YtecoeebjaleeiaaGreatDoor
