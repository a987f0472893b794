/-
  lazaretlaw08.UrlsRaw: it returns true, whatever the text and the URL.
-/
import Derived.Test.YtipndhbgehdeoaaGreatDoorQ47
set_option maxHeartbeats 16000000
set_option maxRecDepth 100000
namespace Go.Proofs.YtipndhbgehdeoaaGreatDoor
open Go.RowKit
attribute [local go_sem ↓] Go.wp_at_zero Go.wp_at_succ
theorem textU_len2 {u:Lz.UrlL} (h0: -9223372036854775808<=u.port) (h1:u.port<=9223372036854775807):(Lz.textU u).length<=Lz.wq u+60:=by
 have h1:(Lz.atU u).length<=u.host.length+22:=by
  unfold Lz.atU;split
  ·omega
  ·rw[List.length_append,List.length_append];have:=itoa_len2 h0 h1;show u.host.length+1+_<=_;omega
 have h2:(if u.opq=true then u.path.headD []else u.path.flatMap fun p=>47::p).length<=Lz.pl u.path:=by
  split
  ·cases u.path with
   | nil=>exact Nat.zero_le _
   | cons p r=>
     show p.length<=Lz.pl ([p]++r);rw[Lz.pl_app,Lz.pl_one];omega
  ·exact Nat.le_refl _
 have h3:(if u.hasHost=true then[47,47]++u.user++(if u.pass=[]then[]else[58]++u.pass)++(if u.user=[]/\u.pass=[]then[]else[64])++Lz.atU u else if u.opq=false/\1<u.path.length/\u.path.head? =some []then[47,46]else[]:List UInt8).length<=26+u.user.length+u.pass.length+u.host.length:=by
  split
  ·have e1:(if u.pass=[]then[]else[58]++u.pass:List UInt8).length<=u.pass.length+1:=by
    split
    ·exact Nat.zero_le _
    ·rw[List.length_append];show 1+_<=_;omega
   have e2:(if u.user=[]/\u.pass=[]then[]else[64]:List UInt8).length<=1:=by split<;>simp
   rw[List.length_append,List.length_append,List.length_append,List.length_append];show 2+_+_+_+_<=_;omega
  ·split
   ·show 2<=_;omega
   ·exact Nat.zero_le _
 have h4:(if u.hasQuery=true then 63::u.query else[]:List UInt8).length<=u.query.length+1:=by split<;>simp
 have h5:(if u.hasFragment=true then 35::u.fragment else[]:List UInt8).length<=u.fragment.length+1:=by split<;>simp
 unfold Lz.textU;rw[List.length_append,List.length_append,List.length_append,List.length_append,List.length_append];unfold Lz.wq Lz.wt;show u.scheme.length+1+_+_+_+_<=_;omega
theorem raw_path {s:List UInt8} {u x:Lz.UrlL} (hu:(Lz.textU u).length<=25000) (e:Lz.parseU s (some u)=.ok x):x.path.length<=1000000000:=by
 unfold Lz.parseU at e;split at e
 ·cases e
 ·rename_i h4;simp only at e;split at e
  ·rename_i h;have h1:=Lz.readU_len h (fun _ h=>by cases h);have h2:=Lz.readU_len e (fun y hy=>by injection hy with hy;rw[<-hy];exact Lz.readU_form h (fun _ h=>by cases h));have h3:=Lz.path_wq x;have h5:Lz.bq none=0:=rfl;have h6:Lz.bq (some u)=Lz.wq u:=rfl;omega
  ·cases e
theorem PO.base {r:Nat} {C:Array Value} {u:Lz.UrlL} {w V:World} (h:PO r C u w V):BaseAt V.heap.size V (.pointer (some ⟨r,0,none⟩)) (some u):=by
 obtain⟨sch,usr,pas,hh,hst,prt,opq,a,c,xs,hq,hf,qry,frg,h1,hu,hx⟩:=h.val.form;obtain rfl:C= #[.string sch,.string usr,.string pas,.bool hh,.string hst,.int .i64 prt,.bool opq,.slice a xs.length c,.bool hq,.bool hf,.string qry,.string frg]:=by injection h1
 exact⟨r,(0,0),sch,usr,pas,hh,hst,prt,opq,a,c,xs,hq,hf,qry,frg,rfl,row_lt h.row,h.row,hu,hx⟩
theorem pl_small:∀(xs:List (List UInt8)),(∀x∈xs,x.length<=300)->Lz.pl xs<=301*xs.length
 | [],_=>Nat.le_refl _
 | x::r,h=>by
   have h1:=pl_small r (fun y hy=>h y (List.mem_cons_of_mem _ hy));have h2:=h x (by simp);show Lz.pl ([x]++r)<=_;rw[Lz.pl_app,Lz.pl_one,List.length_cons];omega
theorem urlsRaw_any (s:ByteArray) (v:Value) (u:Lz.UrlL) (w:World) (hv:UrlVal w v u) (hp0: -9223372036854775808<=u.port) (hp1:u.port<=9223372036854775807) (hE:EnvU w):Calls Tryz.prog 4 #[.string s,v] w (RBool true w):=by
 obtain⟨sch,usr,pas,hh,hst,prt,opq,a,c,xs,hq,hf,qry,frg,rfl,hu,hx⟩:=hv.form;obtain⟨W,hW⟩:∃W,W=w.alloc (.cells #[.string sch,.string usr,.string pas,.bool hh,.string hst,.int .i64 prt,.bool opq,.slice a xs.length c,.bool hq,.bool hf,.string qry,.string frg] 25):=⟨_,rfl⟩;have hbW:Below w.heap.size w W:=by rw[hW];exact(Below.refl _ w).alloc (Nat.le_refl _) _
 have hR:W.heap[w.heap.size]? =some (.cells #[.string sch,.string usr,.string pas,.bool hh,.string hst,.int .i64 prt,.bool opq,.slice a xs.length c,.bool hq,.bool hf,.string qry,.string frg] 25 (0,0)):=by rw[hW];exact heap_new _ _
 have hEW:=hE.below hbW;have hvW:=hv.below hbW;have cH:=Ih (places_any W hEW);have c0:=rowAt hR 0 (.string sch) rfl;have c1:=rowAt hR 1 (.string usr) rfl;have c2:=rowAt hR 2 (.string pas) rfl;have c4:=rowAt hR 4 (.string hst) rfl;have c7:=rowAt hR 7 (.slice a xs.length c) rfl;have c10:=rowAt hR 10 (.string qry) rfl;have c11:=rowAt hR 11 (.string frg) rfl
 have hxW:∀(j:Nat) (x:ByteArray),xs[j]? =some x->∃G off,a=some ⟨G,off,none⟩/\W.cell? ⟨G,off+j,none⟩=some (.string x):=by
  intro j x hj;obtain⟨G,off,h1,h2,h3⟩:=hx j x hj;exact⟨G,off,h1,by rw[hbW.cell (p:=⟨G,off+j,none⟩) h2];exact h3⟩
 have HX:=Ih hxW;have HW:=Ih hW;have HR:=Ih hR;have HU:=Ih hu;have HV:=Ih hvW;have HE:=Ih hEW;clear hxW hx hW hR hu hv hvW hE hEW;by_cases t0:300<s.size
 ·have i0:(300:Int)<(s.size:Int):=by omega
  clear t0;go_enter Tryz.func4,Tryz.ntmps4
  go_wp2_with (rw[<-HW.out])
  refine cH.out.mono ?_;rintro e w1 ⟨rfl,hb⟩
  go_wp2_with fail
  go_ret;exact⟨rfl,hbW.trans (hb.mono hbW.size)⟩
 have i0:¬((300:Int)<(s.size:Int)):=by omega
 by_cases t1:300<sch.size
 ·have i1:(300:Int)<(sch.size:Int):=by omega
  clear t1;go_enter Tryz.func4,Tryz.ntmps4
  go_wp2_with (rw[<-HW.out])
  refine cH.out.mono ?_;rintro e w1 ⟨rfl,hb⟩
  go_wp2_with fail
  go_ret;exact⟨rfl,hbW.trans (hb.mono hbW.size)⟩
 have i1:¬((300:Int)<(sch.size:Int)):=by omega
 by_cases t2:300<usr.size
 ·have i2:(300:Int)<(usr.size:Int):=by omega
  clear t2;go_enter Tryz.func4,Tryz.ntmps4
  go_wp2_with (rw[<-HW.out])
  refine cH.out.mono ?_;rintro e w1 ⟨rfl,hb⟩
  go_wp2_with fail
  go_ret;exact⟨rfl,hbW.trans (hb.mono hbW.size)⟩
 have i2:¬((300:Int)<(usr.size:Int)):=by omega
 by_cases t3:300<pas.size
 ·have i3:(300:Int)<(pas.size:Int):=by omega
  clear t3;go_enter Tryz.func4,Tryz.ntmps4
  go_wp2_with (rw[<-HW.out])
  refine cH.out.mono ?_;rintro e w1 ⟨rfl,hb⟩
  go_wp2_with fail
  go_ret;exact⟨rfl,hbW.trans (hb.mono hbW.size)⟩
 have i3:¬((300:Int)<(pas.size:Int)):=by omega
 by_cases t4:300<hst.size
 ·have i4:(300:Int)<(hst.size:Int):=by omega
  clear t4;go_enter Tryz.func4,Tryz.ntmps4
  go_wp2_with (rw[<-HW.out])
  refine cH.out.mono ?_;rintro e w1 ⟨rfl,hb⟩
  go_wp2_with fail
  go_ret;exact⟨rfl,hbW.trans (hb.mono hbW.size)⟩
 have i4:¬((300:Int)<(hst.size:Int)):=by omega
 by_cases t5:300<qry.size
 ·have i5:(300:Int)<(qry.size:Int):=by omega
  clear t5;go_enter Tryz.func4,Tryz.ntmps4
  go_wp2_with (rw[<-HW.out])
  refine cH.out.mono ?_;rintro e w1 ⟨rfl,hb⟩
  go_wp2_with fail
  go_ret;exact⟨rfl,hbW.trans (hb.mono hbW.size)⟩
 have i5:¬((300:Int)<(qry.size:Int)):=by omega
 by_cases t6:300<frg.size
 ·have i6:(300:Int)<(frg.size:Int):=by omega
  clear t6;go_enter Tryz.func4,Tryz.ntmps4
  go_wp2_with (rw[<-HW.out])
  refine cH.out.mono ?_;rintro e w1 ⟨rfl,hb⟩
  go_wp2_with fail
  go_ret;exact⟨rfl,hbW.trans (hb.mono hbW.size)⟩
 have i6:¬((300:Int)<(frg.size:Int)):=by omega
 by_cases t7:10<xs.length
 ·have i7:(10:Int)<(xs.length:Int):=by omega
  clear t7;go_enter Tryz.func4,Tryz.ntmps4
  go_wp2_with (rw[<-HW.out])
  refine cH.out.mono ?_;rintro e w1 ⟨rfl,hb⟩
  go_wp2_with fail
  go_ret;exact⟨rfl,hbW.trans (hb.mono hbW.size)⟩
 have i7:¬((10:Int)<(xs.length:Int)):=by omega
 go_enter Tryz.func4,Tryz.ntmps4
 go_wp2_with (rw[<-HW.out])
 go_loopw [5] (fun k wr=>∃i:Nat,k=.int .i64 i/\i<=xs.length/\Hid (∀j x,j<i->xs[j]? =some x->x.size<=300)/\W=wr) (fun k _=>xs.length-(intOf k).toNat)
 case atStart=>exact⟨0,rfl,Nat.zero_le _,Ih (fun j x h=>absurd h (Nat.not_lt_zero _)),rfl⟩
 case round=>
  obtain⟨i,rfl,hi,hT,rfl⟩:=hrel;by_cases hlt:i<xs.length
  ·have hltI:(i:Int)<(xs.length:Int):=by omega
   have hi0:(0:Int)<=(i:Int):=by omega
   have wi:IntKind.i64.wrap ((i:Int)+1)=(i:Int)+1:=IntWalk.i64_in _ (by omega);obtain⟨x,hx⟩:∃x,x=xs[i]:=⟨_,rfl⟩;have hxg:xs[i]? =some x:=by rw[List.getElem?_eq_getElem hlt,hx]
   obtain⟨G,off,ha,hcx⟩:=HX.out i x hxg;rw[ha]at c7;have hlen:i<xs.length:=hlt;clear hx hlt;by_cases hb:300<x.size
   ·have hbI:(300:Int)<(x.size:Int):=by omega
    clear hb hxg
    go_wp2_with fail
    refine cH.out.mono ?_;rintro e w1 ⟨rfl,hb⟩
    go_wp2_with fail
    go_ret;exact⟨rfl,hbW.trans (hb.mono hbW.size)⟩
   ·have hbI:¬((300:Int)<(x.size:Int)):=by omega
    have HN:Hid (∀j y,j<i+1->xs[j]? =some y->y.size<=300):=Ih (fun j y hj hy=>by
     by_cases hji:j=i
     ·subst hji;rw[hxg]at hy;obtain rfl:=Option.some.inj hy;omega
     ·exact hT.out j y (by omega) hy)
    have hms:xs.length-(i+1)<xs.length-i:=by omega
    clear hb hxg hT
    go_wp2_with fail
    go_roundw
    case measure=>simpa [intOf]using hms
    case rel=>exact⟨i+1,rfl,by omega,HN,by trivial⟩
  ·have hltI:¬((i:Int)<(xs.length:Int)):=by omega
   obtain rfl:i=xs.length:=by omega
   have hall:∀x∈u.path,x.length<=300:=by
    rw[HU.out];intro y hy;obtain⟨x,hx,rfl⟩:=List.mem_map.1 hy;obtain⟨j,hj,hjx⟩:=List.mem_iff_getElem.1 hx;have:=hT.out j x hj (by rw[List.getElem?_eq_getElem hj,hjx]);rw[len_of_size];exact this
   have hpl:=pl_small u.path hall;have hplen:u.path.length<=10:=by rw[HU.out];simp;omega
   have hwq:Lz.wq u<=5000:=by
    have e0:u.scheme.length<=300:=by rw[HU.out,len_of_size];omega
    have e1:u.user.length<=300:=by rw[HU.out,len_of_size];omega
    have e2:u.pass.length<=300:=by rw[HU.out,len_of_size];omega
    have e3:u.host.length<=300:=by rw[HU.out,len_of_size];omega
    have e4:u.query.length<=300:=by rw[HU.out,len_of_size];omega
    have e5:u.fragment.length<=300:=by rw[HU.out,len_of_size];omega
    unfold Lz.wq Lz.wt;omega
   have htx:=textU_len2 hp0 hp1;have hhost:u.host.length<=1000000000:=by unfold Lz.wq Lz.wt at hwq;omega
   have hsch:u.scheme.length<=1000000000:=by unfold Lz.wq Lz.wt at hwq;omega
   have hTell:TellOk u:=⟨⟨hhost,by omega,hp0,hp1,by omega⟩,⟨hsch,hhost,hp0,hp1⟩,by omega⟩;have P0:PO w.heap.size #[.string sch,.string usr,.string pas,.bool hh,.string hst,.int .i64 prt,.bool opq,.slice a xs.length c,.bool hq,.bool hf,.string qry,.string frg] u w W:=⟨HR.out,hbW,HE.out,HV.out⟩;clear hall hpl hplen hwq htx hhost hsch hT HX HU HV hltI hi
   go_upto_region 8 with fail
   obtain⟨T,hT⟩:∃T:ByteArray,T=⟨(Lz.textU u).toArray⟩:=⟨_,rfl⟩;obtain⟨O,hO⟩:∃O:ByteArray,O=⟨(Lz.originU u).toArray⟩:=⟨_,rfl⟩;have cT1:Hid (∀V,PO w.heap.size #[.string sch,.string usr,.string pas,.bool hh,.string hst,.int .i64 prt,.bool opq,.slice a xs.length c,.bool hq,.bool hf,.string qry,.string frg] u w V->Calls Tryz.prog 9 #[.agg #[.string sch,.string usr,.string pas,.bool hh,.string hst,.int .i64 prt,.bool opq,.slice a xs.length c,.bool hq,.bool hf,.string qry,.string frg]] V fun e w'=>e=.returned (.string T)/\PO w.heap.size #[.string sch,.string usr,.string pas,.bool hh,.string hst,.int .i64 prt,.bool opq,.slice a xs.length c,.bool hq,.bool hf,.string qry,.string frg] u w w'):=Ih (fun V hV=>(text_c hTell hV.val hV.env).mono fun e w' h=>⟨by rw[hT];exact h.1,hV.call h.2⟩)
   have cT2:Hid (∀V,PO w.heap.size #[.string sch,.string usr,.string pas,.bool hh,.string hst,.int .i64 prt,.bool opq,.slice a xs.length c,.bool hq,.bool hf,.string qry,.string frg] u w V->Calls Tryz.prog 10 #[.agg #[.string sch,.string usr,.string pas,.bool hh,.string hst,.int .i64 prt,.bool opq,.slice a xs.length c,.bool hq,.bool hf,.string qry,.string frg]] V fun e w'=>e=.returned (.string T)/\PO w.heap.size #[.string sch,.string usr,.string pas,.bool hh,.string hst,.int .i64 prt,.bool opq,.slice a xs.length c,.bool hq,.bool hf,.string qry,.string frg] u w w'):=Ih (fun V hV=>(text08_c hTell hV.val hV.env).mono fun e w' h=>⟨by rw[hT];exact h.1,hV.call h.2⟩)
   have cO1:Hid (∀V,PO w.heap.size #[.string sch,.string usr,.string pas,.bool hh,.string hst,.int .i64 prt,.bool opq,.slice a xs.length c,.bool hq,.bool hf,.string qry,.string frg] u w V->Calls Tryz.prog 11 #[.agg #[.string sch,.string usr,.string pas,.bool hh,.string hst,.int .i64 prt,.bool opq,.slice a xs.length c,.bool hq,.bool hf,.string qry,.string frg]] V fun e w'=>e=.returned (.string O)/\PO w.heap.size #[.string sch,.string usr,.string pas,.bool hh,.string hst,.int .i64 prt,.bool opq,.slice a xs.length c,.bool hq,.bool hf,.string qry,.string frg] u w w'):=Ih (fun V hV=>(origin_c hTell hV.val hV.env).mono fun e w' h=>⟨by rw[hO];exact h.1,hV.call h.2⟩)
   have cO2:Hid (∀V,PO w.heap.size #[.string sch,.string usr,.string pas,.bool hh,.string hst,.int .i64 prt,.bool opq,.slice a xs.length c,.bool hq,.bool hf,.string qry,.string frg] u w V->Calls Tryz.prog 12 #[.agg #[.string sch,.string usr,.string pas,.bool hh,.string hst,.int .i64 prt,.bool opq,.slice a xs.length c,.bool hq,.bool hf,.string qry,.string frg]] V fun e w'=>e=.returned (.string O)/\PO w.heap.size #[.string sch,.string usr,.string pas,.bool hh,.string hst,.int .i64 prt,.bool opq,.slice a xs.length c,.bool hq,.bool hf,.string qry,.string frg] u w w'):=Ih (fun V hV=>(origin08_c hTell hV.val hV.env).mono fun e w' h=>⟨by rw[hO];exact h.1,hV.call h.2⟩);have P0d:=P0.drew;have HTell:=Ih hTell;have HP0:=Ih P0;clear hT hO hTell P0 HR
   go_cut [82] (fun s wx=>s=.bool false/\PO w.heap.size #[.string sch,.string usr,.string pas,.bool hh,.string hst,.int .i64 prt,.bool opq,.slice a xs.length c,.bool hq,.bool hf,.string qry,.string frg] u w wx)
   case first=>
    go_region_held3 (fun V=>(V.cell? ⟨w.heap.size,0,none⟩=some (.string sch)/\V.cell? ⟨w.heap.size,1,none⟩=some (.string usr)/\V.cell? ⟨w.heap.size,2,none⟩=some (.string pas)/\V.cell? ⟨w.heap.size,3,none⟩=some (.bool hh)/\V.cell? ⟨w.heap.size,4,none⟩=some (.string hst)/\V.cell? ⟨w.heap.size,5,none⟩=some (.int .i64 prt)/\V.cell? ⟨w.heap.size,6,none⟩=some (.bool opq)/\V.cell? ⟨w.heap.size,7,none⟩=some (.slice a xs.length c)/\V.cell? ⟨w.heap.size,8,none⟩=some (.bool hq)/\V.cell? ⟨w.heap.size,9,none⟩=some (.bool hf)/\V.cell? ⟨w.heap.size,10,none⟩=some (.string qry)/\V.cell? ⟨w.heap.size,11,none⟩=some (.string frg))/\PO w.heap.size #[.string sch,.string usr,.string pas,.bool hh,.string hst,.int .i64 prt,.bool opq,.slice a xs.length c,.bool hq,.bool hf,.string qry,.string frg] u w V) (first |exact⟨row12 (PO.row (by assumption)),by assumption⟩) (first |(go_at_call 9;refine(cT1.out _ (by assumption)).mono ?_;rintro e w5 ⟨rfl,hK5⟩)|(go_at_call 10;refine(cT2.out _ (by assumption)).mono ?_;rintro e w5 ⟨rfl,hK5⟩)|(go_at_call 11;refine(cO1.out _ (by assumption)).mono ?_;rintro e w5 ⟨rfl,hK5⟩)|(go_at_call 12;refine(cO2.out _ (by assumption)).mono ?_;rintro e w5 ⟨rfl,hK5⟩))
    all_goals
     go_wp2_with fail
     go_meet;exact⟨rfl,by assumption⟩
   case rest=>
    obtain⟨rfl,P1⟩:=hcut;clear cT1 cT2 cO1 cO2 HP0 P0d;obtain⟨R,hR⟩:∃R,R=Lz.parseU s.data.toList (some u):=⟨_,rfl⟩;have cP:Hid (∀V,PO w.heap.size #[.string sch,.string usr,.string pas,.bool hh,.string hst,.int .i64 prt,.bool opq,.slice a xs.length c,.bool hq,.bool hf,.string qry,.string frg] u w V->Calls Tryz.prog 6 #[.string s,.pointer (some ⟨w.heap.size,0,none⟩)] V (RParse R V)):=Ih (fun V hV=>by rw[hR];exact Parse_any (some u) _ s V hV.env hV.base (fun y h=>by injection h with h;rw[<-h];exact HTell.out.text));have cQ:Hid (∀V,PO w.heap.size #[.string sch,.string usr,.string pas,.bool hh,.string hst,.int .i64 prt,.bool opq,.slice a xs.length c,.bool hq,.bool hf,.string qry,.string frg] u w V->Calls Tryz.prog 7 #[.string s,.pointer (some ⟨w.heap.size,0,none⟩)] V (RParse R V)):=Ih (fun V hV=>by rw[hR];exact Parse08_any (some u) _ s V hV.env hV.base (fun y h=>by injection h with h;rw[<-h];exact HTell.out.text) (fun y h=>by injection h with h;rw[<-h];exact HTell.out.len))
    have hpath:Hid (∀y m,Ans R y m->y.path.length<=1000000000):=Ih (fun y m h=>by
     rcases h with⟨h,_⟩|⟨k,_,rfl,_⟩
     ·exact raw_path HTell.out.len (by rw[<-hR];exact h)
     ·decide)
    clear hR HTell
    go_wp2_with fail
    refine(cP.out _ P1).mono ?_;intro e w6 hr;obtain⟨v6,m6,y6,rfl,hb6,ho6,hk6⟩:=hr.open;have hk6:Ans R y6 m6:=hk6;have hy:=hpath.out _ _ hk6;obtain⟨sc1,us1,pa1,hh1,hs1,pr1,op1,a1,n1,c1,hq1,hf1,qr1,fr1,rfl⟩:=ho6.form;have P2:=P1.call hb6;have P6:=PU.new P2.env P2.below ho6;have P2:=P2.call ((Below.refl w6.heap.size w6).alloc (Nat.le_refl _) (.cells #[.string sc1,.string us1,.string pa1,.bool hh1,.string hs1,.int .i64 pr1,.bool op1,.slice a1 n1 c1,.bool hq1,.bool hf1,.string qr1,.string fr1] 25));clear hr hb6 ho6 cP P1
    go_wp2_with fail
    generalize w6.alloc (.cells #[.string sc1,.string us1,.string pa1,.bool hh1,.string hs1,.int .i64 pr1,.bool op1,.slice a1 n1 c1,.bool hq1,.bool hf1,.string qr1,.string fr1] 25)=V6 at P2 P6⊢;generalize w6.heap.size=r6 at P6⊢;refine(cQ.out _ P2).mono ?_;intro e w7 hr;obtain⟨v7,m7,y7,rfl,hb7,ho7,hk7⟩:=hr.open;obtain⟨rfl,rfl⟩:=hk6.one hk7;obtain⟨sc2,us2,pa2,hh2,hs2,pr2,op2,a2,n2,c2,hq2,hf2,qr2,fr2,rfl⟩:=ho7.form;have P6b:=P6.call hb7;have P7:=PU.new P6b.env P6b.below ho7;have P6:=P6b.alloc (.cells #[.string sc2,.string us2,.string pa2,.bool hh2,.string hs2,.int .i64 pr2,.bool op2,.slice a2 n2 c2,.bool hq2,.bool hf2,.string qr2,.string fr2] 25);have hr6:r6<w7.heap.size:=row_lt P6b.row;clear hr hb7 ho7 cQ hk6 hk7 P6b P2 hpath cH
    go_upto_region 12 with fail
    generalize w7.alloc (.cells #[.string sc2,.string us2,.string pa2,.bool hh2,.string hs2,.int .i64 pr2,.bool op2,.slice a2 n2 c2,.bool hq2,.bool hf2,.string qr2,.string fr2] 25)=V7 at P6 P7⊢;generalize w7.heap.size=r8 at P7 hr6⊢;have HP6:=Ih P6.row;have HP7:=Ih P7.row;have cS:=Ih (same_yes _ _ y7 V7 P6.own.val P7.own.val hy);have hE7:=P6.env;have hb77:=P6.below;clear P6 P7
    go_wp2_with (first |(refine load_url_g (by rfl) (.tmp 6) rfl r6 rfl #[.string sc1,.string us1,.string pa1,.bool hh1,.string hs1,.int .i64 pr1,.bool op1,.slice a1 n1 c1,.bool hq1,.bool hf1,.string qr1,.string fr1] HP6.out rfl ?_)|(refine load_url_g (by rfl) (.tmp 8) rfl r8 rfl #[.string sc2,.string us2,.string pa2,.bool hh2,.string hs2,.int .i64 pr2,.bool op2,.slice a2 n2 c2,.bool hq2,.bool hf2,.string qr2,.string fr2] HP7.out rfl ?_))
    refine cS.out.mono ?_;rintro e w8 ⟨rfl,hb8⟩;have cZ:=Ih (places_any w8 (hE7.below hb8))
    go_wp2_with fail
    refine cZ.out.mono ?_;rintro e w9 ⟨rfl,hb9⟩
    go_wp2_with fail
    go_ret;exact⟨rfl,below_call (below_call hb77 hb8) hb9⟩
end Go.Proofs.YtipndhbgehdeoaaGreatDoor
