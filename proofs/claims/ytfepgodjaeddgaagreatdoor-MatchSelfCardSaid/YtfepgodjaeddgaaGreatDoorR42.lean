/-
  Package urls: Origin.
-/
import Derived.Test.YtfepgodjaeddgaaGreatDoorR38
import Derived.Test.YtfepgodjaeddgaaGreatDoorR22
set_option maxHeartbeats 4000000
set_option maxRecDepth 100000
namespace Go.Proofs.YtfepgodjaeddgaaGreatDoor
open Go.RowKit
theorem textOk_wq {u:Lz.UrlL} (hN:Lz.NU u) (hw:Lz.wq u<=100000):TextOk u:=by
 have h1:u.host.length<=Lz.wq u:=by unfold Lz.wq Lz.wt;omega
 have h2:=Lz.path_wq u;have h3:=Lz.textU_len (u:=u) hN.port;have hp:=hN.port;refine⟨by omega,by omega,?_,?_,by omega⟩
 ·rcases hp with h|⟨n,h,_⟩<;>omega
 ·rcases hp with h|⟨n,h,hn,_⟩<;>omega
theorem textOk_parse {s:List UInt8} {b:Option Lz.UrlL} {u:Lz.UrlL} (e:Lz.parseU s b=.ok u) (hb:∀x,b=some x->∃t,Lz.parseU t none=.ok x):TextOk u:=
 textOk_wq (Lz.parse_form e) (by have:=Lz.parse_wq e hb;omega)
structure OrigOk (u:Lz.UrlL):Prop where
 scheme:u.scheme.length<=1000000000
 host:u.host.length<=1000000000
 p0: -9223372036854775808<=u.port
 p1:u.port<=9223372036854775807
theorem origOk_parse {s:List UInt8} {b:Option Lz.UrlL} {u:Lz.UrlL} (e:Lz.parseU s b=.ok u) (hb:∀x,b=some x->∃t,Lz.parseU t none=.ok x):OrigOk u:=by
 have h:=textOk_parse e hb;have h2:=Lz.parse_wq e hb;refine⟨?_,h.host,h.p0,h.p1⟩;have h1:u.scheme.length<=Lz.wq u:=by unfold Lz.wq Lz.wt;omega
 omega
structure PO (r:Nat) (C:Array Value) (u:Lz.UrlL) (W0 V:World):Prop where
 row:V.heap[r]? =some (.cells C 29 (0,0))
 below:Below W0.heap.size W0 V
 env:EnvU V
 val:UrlVal V (.agg C) u
theorem PO.call {r:Nat} {C:Array Value} {u:Lz.UrlL} {W0 V V':World} (h:PO r C u W0 V) (hb:Below V.heap.size V V'):PO r C u W0 V':=
 ⟨(hb.block _ (row_lt h.row)).trans h.row,below_call h.below hb,h.env.below hb,h.val.below hb⟩
theorem PO.drew {r:Nat} {C:Array Value} {u:Lz.UrlL} {W0 V:World} (h:PO r C u W0 V):PO r C u W0 V.drew:=h.call (Below.refl _ _).drew
theorem Origin_def (v:Value) (u:Lz.UrlL) (w:World) (hv:UrlVal w v u) (hE:EnvU w) (hO:OrigOk u) (hd:Lz.defP u.scheme≠ -1):Calls Tryz.prog 111 #[v] w (RStr (u.scheme++[58,47,47]++Lz.atU u) w):=by
 obtain⟨goal,hg⟩:∃goal,goal=u.scheme++[58,47,47]++Lz.atU u:=⟨_,rfl⟩;rw[<-hg];have HG:=Ih hg;obtain⟨sch,usr,pas,hh,hst,prt,opq,a,c,xs,hq,hf,qry,frg,rfl,hu,hx⟩:=hv.form;obtain⟨C,hC⟩:∃C:Array Value,C= #[.string sch,.string usr,.string pas,.bool hh,.string hst,.int .i64 prt,.bool opq,.slice a xs.length c,.bool hq,.bool hf,.string qry,.string frg]:=⟨_,rfl⟩;have hss:u.scheme=sch.data.toList:=by rw[hu]
 have hs1:sch.size<=1000000000:=by rw[<-len_of_size,<-hss];exact hO.scheme
 obtain⟨W,hW⟩:∃W,W=w.alloc (.cells #[.string sch,.string usr,.string pas,.bool hh,.string hst,.int .i64 prt,.bool opq,.slice a xs.length c,.bool hq,.bool hf,.string qry,.string frg] 29):=⟨_,rfl⟩;have hbW:Below w.heap.size w W:=by rw[hW];exact(Below.refl _ w).alloc (Nat.le_refl _) _
 have hR:W.heap[w.heap.size]? =some (.cells #[.string sch,.string usr,.string pas,.bool hh,.string hst,.int .i64 prt,.bool opq,.slice a xs.length c,.bool hq,.bool hf,.string qry,.string frg] 29 (0,0)):=by rw[hW];exact heap_new _ _
 have hP:PO w.heap.size #[.string sch,.string usr,.string pas,.bool hh,.string hst,.int .i64 prt,.bool opq,.slice a xs.length c,.bool hq,.bool hf,.string qry,.string frg] u w W:=⟨hR,hbW,hE.below hbW,hv.below hbW⟩;have hPd:=hP.drew
 have cA:Hid (∀V,PO w.heap.size #[.string sch,.string usr,.string pas,.bool hh,.string hst,.int .i64 prt,.bool opq,.slice a xs.length c,.bool hq,.bool hf,.string qry,.string frg] u w V->Calls Tryz.prog 58 #[.agg #[.string sch,.string usr,.string pas,.bool hh,.string hst,.int .i64 prt,.bool opq,.slice a xs.length c,.bool hq,.bool hf,.string qry,.string frg]] V fun e w'=>∃t:ByteArray,e=.returned (.string t)/\Hid (t.data.toList=Lz.atU u)/\t.size<=1000000100/\PO w.heap.size #[.string sch,.string usr,.string pas,.bool hh,.string hst,.int .i64 prt,.bool opq,.slice a xs.length c,.bool hq,.bool hf,.string qry,.string frg] u w w'):=Ih (by
  intro V hV;refine(at_any _ u V hV.val hV.env.h hO.p0 hO.p1 hO.host).mono ?_;rintro e w' ⟨t,he,ht,hb'⟩;refine⟨t,he,ht,?_,hV.call hb'⟩;rw[<-len_of_size,ht.out];unfold Lz.atU;split
  ·have:=hO.host;omega
  ·have h1:=itoa_len2 hO.p0 hO.p1;have h2:=hO.host;simp only[List.length_append,List.length_singleton];omega)
 have c0:=rowAt hR 0 (.string sch) rfl;obtain⟨d,hdd⟩:∃d,d=Lz.defP sch.data.toList:=⟨_,rfl⟩;have hdb:(d== -1)=false:=by rw[hdd,<-hss];exact beq_eq_false_iff_ne.2 hd
 have hdb2:(d != -1)=true:=by rw[bne,hdb];rfl
 have cD:Hid (Calls Tryz.prog 113 #[.string sch] W fun e w'=>e=.returned (.int .i64 d)/\W=w'):=Ih (by rw[hdd];exact Default_any sch W);have n1:¬(9223372036854775807<sch.size+3):=by omega
 have HG2:Hid (goal=sch.data.toList++[58,47,47]++Lz.atU u):=Ih (by rw[HG.out,hss]);have HW:=Ih hW;have HP:=Ih hP;clear hC hW hR hv hx hg hE hu hss hO hd hdd HG hP;go_enter Tryz.func111,Tryz.ntmps111
 go_wp2_with (rw[<-HW.out])
 refine cD.out.mono ?_;rintro e w1 ⟨rfl,rfl⟩
 go_upto_region 2 with fail
 go_cut [2] (fun s wx=>∃t:ByteArray,s=.string t/\Hid (t.data.toList=goal)/\Below w.heap.size w wx)
 case first=>
  have hPw:=HP.out
  go_region_held3 (fun V=>(V.cell? ⟨w.heap.size,0,none⟩=some (.string sch)/\V.cell? ⟨w.heap.size,1,none⟩=some (.string usr)/\V.cell? ⟨w.heap.size,2,none⟩=some (.string pas)/\V.cell? ⟨w.heap.size,3,none⟩=some (.bool hh)/\V.cell? ⟨w.heap.size,4,none⟩=some (.string hst)/\V.cell? ⟨w.heap.size,5,none⟩=some (.int .i64 prt)/\V.cell? ⟨w.heap.size,6,none⟩=some (.bool opq)/\V.cell? ⟨w.heap.size,7,none⟩=some (.slice a xs.length c)/\V.cell? ⟨w.heap.size,8,none⟩=some (.bool hq)/\V.cell? ⟨w.heap.size,9,none⟩=some (.bool hf)/\V.cell? ⟨w.heap.size,10,none⟩=some (.string qry)/\V.cell? ⟨w.heap.size,11,none⟩=some (.string frg))/\PO w.heap.size #[.string sch,.string usr,.string pas,.bool hh,.string hst,.int .i64 prt,.bool opq,.slice a xs.length c,.bool hq,.bool hf,.string qry,.string frg] u w V) (first |exact⟨row12 (PO.row (by assumption)),by assumption⟩) (first |(go_at_call 58;refine(cA.out _ (by assumption)).mono ?_;rintro e w4 ⟨t,rfl,ht,hts,hP4⟩;have n2:¬(9223372036854775807<sch.size+3+t.size):=(by omega)))
  go_wp2_with fail
  go_meet;exact⟨_,rfl,by show _=_;rw[HG2.out,append_data',append_data',ht.out],hP4.below⟩
 case rest=>
  obtain⟨t,rfl,ht,hb⟩:=hcut
  go_wp2_with fail
  go_ret;exact⟨t,rfl,ht,hb⟩
theorem ParseRes.cases {r:Lz.UR} {w:World} {v:Value} {n:Int} (h:ParseRes r w v n):∃u,UrlOwn w v u/\((r=.ok u/\n=0)\/∃k:Nat,r=.er k/\u=zeroU/\n=(k:Int)):=by
 cases r with
 | ok u=>exact⟨u,h.2,Or.inl ⟨rfl,h.1⟩⟩
 | er k=>exact⟨zeroU,h.2,Or.inr ⟨k,rfl,rfl,h.1⟩⟩
def nullS:List UInt8:=[110,117,108,108]
theorem originU_null {u:Lz.UrlL} (hd:Lz.defP u.scheme= -1) (h:¬(u.scheme=Lz.blobS/\u.opq=true/\u.path≠[])):Lz.originU u=nullS:=by
 unfold Lz.originU;rw[if_neg (by simp[hd]),if_neg h];rfl
theorem def_http {s:List UInt8} (h:s=Lz.httpS\/s=Lz.httpsS):Lz.defP s≠ -1:=by rcases h with rfl|rfl<;>decide
def blobR:Lz.UR->List UInt8
 | .ok x=>if x.scheme=Lz.httpS\/x.scheme=Lz.httpsS then x.scheme++[58,47,47]++Lz.atU x else nullS
 | .er _=>nullS
theorem originU_blob {u:Lz.UrlL} (hd:Lz.defP u.scheme= -1) (h:u.scheme=Lz.blobS/\u.opq=true/\u.path≠[]):Lz.originU u=blobR (Lz.parseU (u.path.headD []) none):=by
 unfold Lz.originU;rw[if_neg (by simp[hd]),if_pos h];cases Lz.parseU (u.path.headD []) none<;>rfl
theorem Origin_any (v:Value) (u:Lz.UrlL) (w:World) (hv:UrlVal w v u) (hE:EnvU w) (hO:OrigOk u):Calls Tryz.prog 111 #[v] w (RStr (Lz.originU u) w):=by
 by_cases hd:Lz.defP u.scheme= -1
 case neg=>
  rw[show Lz.originU u=u.scheme++[58,47,47]++Lz.atU u by unfold Lz.originU;rw[if_pos hd]];exact Origin_def v u w hv hE hO hd
 obtain⟨goal,hg⟩:∃goal,goal=Lz.originU u:=⟨_,rfl⟩;rw[<-hg];have hnull:=fun h=>hg.trans (originU_null hd h);have hblob:=fun h=>hg.trans (originU_blob hd h);obtain⟨sch,usr,pas,hh,hst,prt,opq,a,c,xs,hq,hf,qry,frg,rfl,rfl,hx⟩:=hv.form;obtain⟨W,hW⟩:∃W,W=w.alloc (.cells #[.string sch,.string usr,.string pas,.bool hh,.string hst,.int .i64 prt,.bool opq,.slice a xs.length c,.bool hq,.bool hf,.string qry,.string frg] 29):=⟨_,rfl⟩;have hbW:Below w.heap.size w W:=by rw[hW];exact(Below.refl _ w).alloc (Nat.le_refl _) _
 have hR:W.heap[w.heap.size]? =some (.cells #[.string sch,.string usr,.string pas,.bool hh,.string hst,.int .i64 prt,.bool opq,.slice a xs.length c,.bool hq,.bool hf,.string qry,.string frg] 29 (0,0)):=by rw[hW];exact heap_new _ _
 have c0:=rowAt hR 0 (.string sch) rfl;have c6:=rowAt hR 6 (.bool opq) rfl;have c7:=rowAt hR 7 (.slice a xs.length c) rfl;obtain⟨d,hdd⟩:∃d,d=Lz.defP sch.data.toList:=⟨_,rfl⟩;have hdb:(d== -1)=true:=by rw[hdd];simpa using hd
 have hdb2:(d != -1)=false:=by rw[bne,hdb];rfl
 have cD:Hid (Calls Tryz.prog 113 #[.string sch] W fun e w'=>e=.returned (.int .i64 d)/\W=w'):=Ih (by rw[hdd];exact Default_any sch W);have HW:=Ih hW;by_cases hs:sch.data.toList=Lz.blobS
 case neg=>
  have e0:=text_no (k:=[98,108,111,98]) hs;have HG:Hid (goal=nullS):=Ih (hnull (fun h=>hs h.1));clear hW hR hv hx hg hE hO hd hdd hnull hblob hs;go_enter Tryz.func111,Tryz.ntmps111
  go_wp2_with (rw[<-HW.out])
  refine cD.out.mono ?_;rintro e w1 ⟨rfl,rfl⟩
  go_wp2_with fail
  go_ret;exact⟨_,rfl,Ih HG.out.symm,hbW⟩
 have e0:=text_yes (k:=[98,108,111,98]) hs;cases opq with
 | false=>
   have HG:Hid (goal=nullS):=Ih (hnull (fun h=>by cases h.2.1));clear hW hR hv hx hg hE hO hd hdd hnull hblob hs;go_enter Tryz.func111,Tryz.ntmps111
   go_wp2_with (rw[<-HW.out])
   refine cD.out.mono ?_;rintro e w1 ⟨rfl,rfl⟩
   go_wp2_with fail
   go_ret;exact⟨_,rfl,Ih HG.out.symm,hbW⟩
 | true=>
   cases xs with
   | nil=>
     have HG:Hid (goal=nullS):=Ih (hnull (fun h=>h.2.2 rfl));simp only[List.length_nil]at c7 HW;clear hW hR hv hx hg hE hO hd hdd hnull hblob hs;go_enter Tryz.func111,Tryz.ntmps111
     go_wp2_with (rw[<-HW.out])
     refine cD.out.mono ?_;rintro e w1 ⟨rfl,rfl⟩
     go_wp2_with fail
     go_ret;exact⟨_,rfl,Ih HG.out.symm,hbW⟩
   | cons x0 xr=>
     have hblob:=hblob ⟨hs,rfl,by simp⟩;obtain⟨G,o,ha,hG,hc0⟩:=hx 0 x0 rfl;subst ha;have hc1:W.cell? ⟨G,o+0,none⟩=some (.string x0):=by rw[hbW.cell (p:=⟨G,o+0,none⟩) hG];exact hc0
     have hc2:W.cell? ⟨G,o,none⟩=some (.string x0):=hc1;obtain⟨n,hn⟩:∃n,n=xr.length+1:=⟨_,rfl⟩;simp only[List.length_cons]at c7 HW;rw[<-hn]at c7 HW;have hlen:(0:Int)<(n:Int):=by omega
     have hn0:0<n:=by omega
     obtain⟨R,hRR⟩:∃R,R=Lz.parseU x0.data.toList none:=⟨_,rfl⟩;have HB:Hid (goal=blobR R):=Ih (by rw[hRR];exact hblob);have HR0:=Ih hRR;have cP:Hid (Calls Tryz.prog 15 #[.string x0,.pointer none] W (RParseU R W)):=Ih (by rw[hRR];exact ParseU_any none (.pointer none) x0 W (hE.below hbW) rfl (fun y h=>by cases h));have HE:=Ih (hE.below hbW);have hneq:(n==0)=false:=by simp;omega
     have HN:=Ih hn;clear hW hR hv hx hg hE hO hd hdd hnull hblob hs hc0 hn hRR;go_enter Tryz.func111,Tryz.ntmps111
     go_wp2_with (rw[<-HN.out,<-HW.out])
     refine cD.out.mono ?_;rintro e w1 ⟨rfl,rfl⟩
     go_wp2_with fail
     refine cP.out.mono ?_;rintro e w2 ⟨v2,k,rfl,hb2,hres⟩;obtain⟨x,hox,hk⟩:=hres.cases;have hb02:=hbW.trans (hb2.mono hbW.size);obtain⟨sc1,us1,pa1,hh1,hs1,pr1,op1,a1,n1,c1,hq1,hf1,qr1,fr1,rfl⟩:=hox.form;have hEV:=(HE.out.below hb2).below ((Below.refl w2.heap.size w2).alloc (Nat.le_refl _) (.cells #[.string sc1,.string us1,.string pa1,.bool hh1,.string hs1,.int .i64 pr1,.bool op1,.slice a1 n1 c1,.bool hq1,.bool hf1,.string qr1,.string fr1] 29));have hbV:=hb02.alloc hb02.size (.cells #[.string sc1,.string us1,.string pa1,.bool hh1,.string hs1,.int .i64 pr1,.bool op1,.slice a1 n1 c1,.bool hq1,.bool hf1,.string qr1,.string fr1] 29);have hrV:(w2.alloc (.cells #[.string sc1,.string us1,.string pa1,.bool hh1,.string hs1,.int .i64 pr1,.bool op1,.slice a1 n1 c1,.bool hq1,.bool hf1,.string qr1,.string fr1] 29)).heap[w2.heap.size]? =some (.cells #[.string sc1,.string us1,.string pa1,.bool hh1,.string hs1,.int .i64 pr1,.bool op1,.slice a1 n1 c1,.bool hq1,.bool hf1,.string qr1,.string fr1] 29 (0,0)):=heap_new _ _
     have hoV:=hox.below ((Below.refl w2.heap.size w2).alloc (Nat.le_refl _) (.cells #[.string sc1,.string us1,.string pa1,.bool hh1,.string hs1,.int .i64 pr1,.bool op1,.slice a1 n1 c1,.bool hq1,.bool hf1,.string qr1,.string fr1] 29));clear hres hox HE cP cD hb2
     go_upto_region 5 with fail
     generalize w2.alloc (.cells #[.string sc1,.string us1,.string pa1,.bool hh1,.string hs1,.int .i64 pr1,.bool op1,.slice a1 n1 c1,.bool hq1,.bool hf1,.string qr1,.string fr1] 29)=V at hEV hbV hrV hoV⊢;generalize w2.heap.size=r2 at hrV⊢;have k0:=rowAt hrV 0 (.string sc1) rfl;rcases hk with⟨hR,hk0⟩|⟨m,hR,_,hk0⟩
     case inr=>
      have hm:=Lz.parse_err (HR0.out.symm.trans hR);have HG:Hid (goal=nullS):=Ih (by rw[HB.out,hR];rfl);have hkb:(k==0)=false:=by rw[hk0];simp;omega
      clear hR hk0 hm HB HR0
      go_wp2_with fail
      go_ret;exact⟨_,rfl,Ih HG.out.symm,hbV⟩
     case inl=>
      have hkb:(k==0)=true:=by rw[hk0];rfl
      have hxs:x.scheme=sc1.data.toList:=by
       obtain⟨_,_,_,_,_,_,_,_,_,_,_,_,_,_,h1,h2,_⟩:=hoV.val.form;rw[h2];simp only[Value.agg.injEq,Array.mk.injEq,List.cons.injEq,Value.string.injEq]at h1;rw[h1.1]
      have hOx:=origOk_parse (HR0.out.symm.trans hR) (fun y h=>by cases h);by_cases h1:sc1.data.toList=Lz.httpS\/sc1.data.toList=Lz.httpsS
      ·have HG:Hid (goal=x.scheme++[58,47,47]++Lz.atU x):=Ih (by rw[HB.out,hR,blobR,if_pos (by rw[hxs];exact h1)]);have cO:=Ih (Origin_def _ x V hoV.val hEV hOx (by rw[hxs];exact def_http h1));rw[<-HG.out]at cO;have HRV:=Ih hrV;by_cases h2:sc1.data.toList=Lz.httpS
       ·have q1:=text_yes (k:=[104,116,116,112]) h2;clear h1 h2 hxs hOx hR hk0 HB HR0 HG hoV hEV hrV
        go_wp2_with (first |(refine wpList_load_row rfl 29 (.tmp 3) rfl r2 rfl 29 _ (0,0) _ HRV.out Tryz.underlying29 rfl urlSize ?_))
        refine cO.out.mono ?_;rintro e w5 ⟨t,rfl,ht,hb5⟩
        go_wp2_with fail
        go_ret;exact⟨_,rfl,ht,below_call hbV hb5⟩
       ·have q1:=text_no (k:=[104,116,116,112]) h2;have q2:=text_yes (k:=[104,116,116,112,115]) (h1.resolve_left h2);clear h1 h2 hxs hOx hR hk0 HB HR0 HG hoV hEV hrV
        go_wp2_with (first |(refine wpList_load_row rfl 29 (.tmp 3) rfl r2 rfl 29 _ (0,0) _ HRV.out Tryz.underlying29 rfl urlSize ?_))
        refine cO.out.mono ?_;rintro e w5 ⟨t,rfl,ht,hb5⟩
        go_wp2_with fail
        go_ret;exact⟨_,rfl,ht,below_call hbV hb5⟩
      ·have HG:Hid (goal=nullS):=Ih (by rw[HB.out,hR,blobR,if_neg (by rw[hxs];exact h1)]);have q1:=text_no (k:=[104,116,116,112]) (fun h=>h1 (Or.inl h));have q2:=text_no (k:=[104,116,116,112,115]) (fun h=>h1 (Or.inr h));clear h1 hxs hOx hR hk0 HB HR0 hoV hEV hrV
       go_wp2_with fail
       go_ret;exact⟨_,rfl,Ih HG.out.symm,hbV⟩
end Go.Proofs.YtfepgodjaeddgaaGreatDoor
