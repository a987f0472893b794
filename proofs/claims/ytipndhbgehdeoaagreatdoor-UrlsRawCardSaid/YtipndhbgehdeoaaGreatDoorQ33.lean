/-
  lazaretref06: Encode.
-/
import Derived.Test.YtipndhbgehdeoaaGreatDoorQ31
import Derived.Test.YtipndhbgehdeoaaGreatDoorQ21
set_option maxHeartbeats 4000000
set_option maxRecDepth 100000
namespace Go.Proofs.YtipndhbgehdeoaaGreatDoor
open Go.RowKit
theorem textOk_wq {u:Lz.UrlL} (hN:Lz.NU u) (hw:Lz.wq u<=100000):TextOk u:=by
 have h1:u.host.length<=Lz.wq u:=by unfold Lz.wq Lz.wt;omega
 have h2:=Lz.path_wq u;have h3:=Lz.textU_len (u:=u) hN.port;have hp:=hN.port;refine⟨by omega,by omega,?_,?_,by omega⟩
 ·rcases hp with h|⟨n,h,_⟩<;>omega
 ·rcases hp with h|⟨n,h,hn,_⟩<;>omega
theorem textOk_parse {s:List UInt8} {b:Option Lz.UrlL} {u:Lz.UrlL} (e:Lz.parseU s b=.ok u) (hb:∀x,b=some x->∃t,Lz.parseU t none=.ok x):TextOk u:=
 textOk_wq (Lz.parse_form e) (by have:=Lz.parse_wq e hb;omega)
structure OrigOk (u:Lz.UrlL):Prop where
 scheme:u.scheme.length<=1000000000
 host:u.host.length<=1000000000
 p0: -9223372036854775808<=u.port
 p1:u.port<=9223372036854775807
theorem origOk_parse {s:List UInt8} {b:Option Lz.UrlL} {u:Lz.UrlL} (e:Lz.parseU s b=.ok u) (hb:∀x,b=some x->∃t,Lz.parseU t none=.ok x):OrigOk u:=by
 have h:=textOk_parse e hb;have h2:=Lz.parse_wq e hb;refine⟨?_,h.host,h.p0,h.p1⟩;have h1:u.scheme.length<=Lz.wq u:=by unfold Lz.wq Lz.wt;omega
 omega
structure PO (r:Nat) (C:Array Value) (u:Lz.UrlL) (W0 V:World):Prop where
 row:V.heap[r]? =some (.cells C 25 (0,0))
 below:Below W0.heap.size W0 V
 env:EnvU V
 val:UrlVal V (.agg C) u
theorem PO.call {r:Nat} {C:Array Value} {u:Lz.UrlL} {W0 V V':World} (h:PO r C u W0 V) (hb:Below V.heap.size V V'):PO r C u W0 V':=
 ⟨(hb.block _ (row_lt h.row)).trans h.row,below_call h.below hb,h.env.below hb,h.val.below hb⟩
theorem PO.drew {r:Nat} {C:Array Value} {u:Lz.UrlL} {W0 V:World} (h:PO r C u W0 V):PO r C u W0 V.drew:=h.call (Below.refl _ _).drew
theorem Origin_def (v:Value) (u:Lz.UrlL) (w:World) (hv:UrlVal w v u) (hE:EnvU w) (hO:OrigOk u) (hd:Lz.defP u.scheme≠ -1):Calls Tryz.prog 11 #[v] w (RStr (u.scheme++[58,47,47]++Lz.atU u) w):=by
 obtain⟨goal,hg⟩:∃goal,goal=u.scheme++[58,47,47]++Lz.atU u:=⟨_,rfl⟩;rw[<-hg];have HG:=Ih hg;obtain⟨sch,usr,pas,hh,hst,prt,opq,a,c,xs,hq,hf,qry,frg,rfl,hu,hx⟩:=hv.form;obtain⟨C,hC⟩:∃C:Array Value,C= #[.string sch,.string usr,.string pas,.bool hh,.string hst,.int .i64 prt,.bool opq,.slice a xs.length c,.bool hq,.bool hf,.string qry,.string frg]:=⟨_,rfl⟩;have hss:u.scheme=sch.data.toList:=by rw[hu]
 have hs1:sch.size<=1000000000:=by rw[<-len_of_size,<-hss];exact hO.scheme
 obtain⟨W,hW⟩:∃W,W=w.alloc (.cells #[.string sch,.string usr,.string pas,.bool hh,.string hst,.int .i64 prt,.bool opq,.slice a xs.length c,.bool hq,.bool hf,.string qry,.string frg] 25):=⟨_,rfl⟩;have hbW:Below w.heap.size w W:=by rw[hW];exact(Below.refl _ w).alloc (Nat.le_refl _) _
 have hR:W.heap[w.heap.size]? =some (.cells #[.string sch,.string usr,.string pas,.bool hh,.string hst,.int .i64 prt,.bool opq,.slice a xs.length c,.bool hq,.bool hf,.string qry,.string frg] 25 (0,0)):=by rw[hW];exact heap_new _ _
 have hP:PO w.heap.size #[.string sch,.string usr,.string pas,.bool hh,.string hst,.int .i64 prt,.bool opq,.slice a xs.length c,.bool hq,.bool hf,.string qry,.string frg] u w W:=⟨hR,hbW,hE.below hbW,hv.below hbW⟩;have hPd:=hP.drew
 have cA:Hid (∀V,PO w.heap.size #[.string sch,.string usr,.string pas,.bool hh,.string hst,.int .i64 prt,.bool opq,.slice a xs.length c,.bool hq,.bool hf,.string qry,.string frg] u w V->Calls Tryz.prog 23 #[.agg #[.string sch,.string usr,.string pas,.bool hh,.string hst,.int .i64 prt,.bool opq,.slice a xs.length c,.bool hq,.bool hf,.string qry,.string frg]] V fun e w'=>∃t:ByteArray,e=.returned (.string t)/\Hid (t.data.toList=Lz.atU u)/\t.size<=1000000100/\PO w.heap.size #[.string sch,.string usr,.string pas,.bool hh,.string hst,.int .i64 prt,.bool opq,.slice a xs.length c,.bool hq,.bool hf,.string qry,.string frg] u w w'):=Ih (by
  intro V hV;refine(at_any _ u V hV.val hV.env.h hO.p0 hO.p1 hO.host).mono ?_;rintro e w' ⟨t,he,ht,hb'⟩;refine⟨t,he,ht,?_,hV.call hb'⟩;rw[<-len_of_size,ht.out];unfold Lz.atU;split
  ·have:=hO.host;omega
  ·have h1:=itoa_len2 hO.p0 hO.p1;have h2:=hO.host;simp only[List.length_append,List.length_singleton];omega)
 have c0:=rowAt hR 0 (.string sch) rfl;obtain⟨d,hdd⟩:∃d,d=Lz.defP sch.data.toList:=⟨_,rfl⟩;have hdb:(d== -1)=false:=by rw[hdd,<-hss];exact beq_eq_false_iff_ne.2 hd
 have hdb2:(d != -1)=true:=by rw[bne,hdb];rfl
 have cD:Hid (Calls Tryz.prog 14 #[.string sch] W fun e w'=>e=.returned (.int .i64 d)/\W=w'):=Ih (by rw[hdd];exact Default_any sch W);have n1:¬(9223372036854775807<sch.size+3):=by omega
 have HG2:Hid (goal=sch.data.toList++[58,47,47]++Lz.atU u):=Ih (by rw[HG.out,hss]);have HW:=Ih hW;have HP:=Ih hP;clear hC hW hR hv hx hg hE hu hss hO hd hdd HG hP;go_enter Tryz.func11,Tryz.ntmps11
 go_wp2_with (rw[<-HW.out])
 refine cD.out.mono ?_;rintro e w1 ⟨rfl,rfl⟩
 go_upto_region 2 with fail
 go_cut [2] (fun s wx=>∃t:ByteArray,s=.string t/\Hid (t.data.toList=goal)/\Below w.heap.size w wx)
 case first=>
  have hPw:=HP.out
  go_region_held3 (fun V=>(V.cell? ⟨w.heap.size,0,none⟩=some (.string sch)/\V.cell? ⟨w.heap.size,1,none⟩=some (.string usr)/\V.cell? ⟨w.heap.size,2,none⟩=some (.string pas)/\V.cell? ⟨w.heap.size,3,none⟩=some (.bool hh)/\V.cell? ⟨w.heap.size,4,none⟩=some (.string hst)/\V.cell? ⟨w.heap.size,5,none⟩=some (.int .i64 prt)/\V.cell? ⟨w.heap.size,6,none⟩=some (.bool opq)/\V.cell? ⟨w.heap.size,7,none⟩=some (.slice a xs.length c)/\V.cell? ⟨w.heap.size,8,none⟩=some (.bool hq)/\V.cell? ⟨w.heap.size,9,none⟩=some (.bool hf)/\V.cell? ⟨w.heap.size,10,none⟩=some (.string qry)/\V.cell? ⟨w.heap.size,11,none⟩=some (.string frg))/\PO w.heap.size #[.string sch,.string usr,.string pas,.bool hh,.string hst,.int .i64 prt,.bool opq,.slice a xs.length c,.bool hq,.bool hf,.string qry,.string frg] u w V) (first |exact⟨row12 (PO.row (by assumption)),by assumption⟩) (first |(go_at_call 23;refine(cA.out _ (by assumption)).mono ?_;rintro e w4 ⟨t,rfl,ht,hts,hP4⟩;have n2:¬(9223372036854775807<sch.size+3+t.size):=(by omega)))
  go_wp2_with fail
  go_meet;exact⟨_,rfl,by show _=_;rw[HG2.out,append_data',append_data',ht.out],hP4.below⟩
 case rest=>
  obtain⟨t,rfl,ht,hb⟩:=hcut
  go_wp2_with fail
  go_ret;exact⟨t,rfl,ht,hb⟩
theorem load_url_g {ops:Array Oper} {rest:List Oper} {o:Oper} {a:Act} {w:World} {Q:Exit->Act->World->Prop} (hw:Region.wanted o (yielded ops a.tmps)=true) (x:Operand) (ho:o.op=.load 25 x)
  (g:Nat) (hx:a.eval x=.pointer (some ⟨g,0,none⟩)) (cs:Array Value) (hg:w.heap[g]? =some (.cells cs 25 (0,0))) (hs:cs.size=12)
  (hk:wpList Tryz.prog ops Q rest (a.put o.dst (.agg cs)) w):wpList Tryz.prog ops Q (o::rest) a w:=
 wpList_step fun K hK=>by
  rw[if_pos hw];exact wp_load_row 25 x ho g hx 25 cs (0,0) _ hg Tryz.underlying25 rfl (by rw[hs];exact urlSize) (hK _ _ hk)
theorem ParseRes.cases {r:Lz.UR} {w:World} {v:Value} {n:Int} (h:ParseRes r w v n):∃u,UrlOwn w v u/\((r=.ok u/\n=0)\/∃k:Nat,r=.er k/\u=zeroU/\n=(k:Int)):=by
 cases r with
 | ok u=>exact⟨u,h.2,Or.inl ⟨rfl,h.1⟩⟩
 | er k=>exact⟨zeroU,h.2,Or.inr ⟨k,rfl,rfl,h.1⟩⟩
def nullS:List UInt8:=[110,117,108,108]
theorem originU_null {u:Lz.UrlL} (hd:Lz.defP u.scheme= -1) (h:¬(u.scheme=Lz.blobS/\u.opq=true/\u.path≠[])):Lz.originU u=nullS:=by
 unfold Lz.originU;rw[if_neg (by simp[hd]),if_neg h];rfl
theorem def_http {s:List UInt8} (h:s=Lz.httpS\/s=Lz.httpsS):Lz.defP s≠ -1:=by rcases h with rfl|rfl<;>decide
def blobR:Lz.UR->List UInt8
 | .ok x=>if x.scheme=Lz.httpS\/x.scheme=Lz.httpsS then x.scheme++[58,47,47]++Lz.atU x else nullS
 | .er _=>nullS
theorem originU_blob {u:Lz.UrlL} (hd:Lz.defP u.scheme= -1) (h:u.scheme=Lz.blobS/\u.opq=true/\u.path≠[]):Lz.originU u=blobR (Lz.parseU (u.path.headD []) none):=by
 unfold Lz.originU;rw[if_neg (by simp[hd]),if_pos h];cases Lz.parseU (u.path.headD []) none<;>rfl
theorem Origin_any (v:Value) (u:Lz.UrlL) (w:World) (hv:UrlVal w v u) (hE:EnvU w) (hO:OrigOk u):Calls Tryz.prog 11 #[v] w (RStr (Lz.originU u) w):=by
 by_cases hd:Lz.defP u.scheme= -1
 case neg=>
  rw[show Lz.originU u=u.scheme++[58,47,47]++Lz.atU u by unfold Lz.originU;rw[if_pos hd]];exact Origin_def v u w hv hE hO hd
 obtain⟨goal,hg⟩:∃goal,goal=Lz.originU u:=⟨_,rfl⟩;rw[<-hg];have hnull:=fun h=>hg.trans (originU_null hd h);have hblob:=fun h=>hg.trans (originU_blob hd h);obtain⟨sch,usr,pas,hh,hst,prt,opq,a,c,xs,hq,hf,qry,frg,rfl,rfl,hx⟩:=hv.form;obtain⟨W,hW⟩:∃W,W=w.alloc (.cells #[.string sch,.string usr,.string pas,.bool hh,.string hst,.int .i64 prt,.bool opq,.slice a xs.length c,.bool hq,.bool hf,.string qry,.string frg] 25):=⟨_,rfl⟩;have hbW:Below w.heap.size w W:=by rw[hW];exact(Below.refl _ w).alloc (Nat.le_refl _) _
 have hR:W.heap[w.heap.size]? =some (.cells #[.string sch,.string usr,.string pas,.bool hh,.string hst,.int .i64 prt,.bool opq,.slice a xs.length c,.bool hq,.bool hf,.string qry,.string frg] 25 (0,0)):=by rw[hW];exact heap_new _ _
 have c0:=rowAt hR 0 (.string sch) rfl;have c6:=rowAt hR 6 (.bool opq) rfl;have c7:=rowAt hR 7 (.slice a xs.length c) rfl;obtain⟨d,hdd⟩:∃d,d=Lz.defP sch.data.toList:=⟨_,rfl⟩;have hdb:(d== -1)=true:=by rw[hdd];simpa using hd
 have hdb2:(d != -1)=false:=by rw[bne,hdb];rfl
 have cD:Hid (Calls Tryz.prog 14 #[.string sch] W fun e w'=>e=.returned (.int .i64 d)/\W=w'):=Ih (by rw[hdd];exact Default_any sch W);have HW:=Ih hW;by_cases hs:sch.data.toList=Lz.blobS
 case neg=>
  have e0:=text_no (k:=[98,108,111,98]) hs;have HG:Hid (goal=nullS):=Ih (hnull (fun h=>hs h.1));clear hW hR hv hx hg hE hO hd hdd hnull hblob hs;go_enter Tryz.func11,Tryz.ntmps11
  go_wp2_with (rw[<-HW.out])
  refine cD.out.mono ?_;rintro e w1 ⟨rfl,rfl⟩
  go_wp2_with fail
  go_ret;exact⟨_,rfl,Ih HG.out.symm,hbW⟩
 have e0:=text_yes (k:=[98,108,111,98]) hs;cases opq with
 | false=>
   have HG:Hid (goal=nullS):=Ih (hnull (fun h=>by cases h.2.1));clear hW hR hv hx hg hE hO hd hdd hnull hblob hs;go_enter Tryz.func11,Tryz.ntmps11
   go_wp2_with (rw[<-HW.out])
   refine cD.out.mono ?_;rintro e w1 ⟨rfl,rfl⟩
   go_wp2_with fail
   go_ret;exact⟨_,rfl,Ih HG.out.symm,hbW⟩
 | true=>
   cases xs with
   | nil=>
     have HG:Hid (goal=nullS):=Ih (hnull (fun h=>h.2.2 rfl));simp only[List.length_nil]at c7 HW;clear hW hR hv hx hg hE hO hd hdd hnull hblob hs;go_enter Tryz.func11,Tryz.ntmps11
     go_wp2_with (rw[<-HW.out])
     refine cD.out.mono ?_;rintro e w1 ⟨rfl,rfl⟩
     go_wp2_with fail
     go_ret;exact⟨_,rfl,Ih HG.out.symm,hbW⟩
   | cons x0 xr=>
     have hblob:=hblob ⟨hs,rfl,by simp⟩;obtain⟨G,o,ha,hG,hc0⟩:=hx 0 x0 rfl;subst ha;have hc1:W.cell? ⟨G,o+0,none⟩=some (.string x0):=by rw[hbW.cell (p:=⟨G,o+0,none⟩) hG];exact hc0
     have hc2:W.cell? ⟨G,o,none⟩=some (.string x0):=hc1;obtain⟨n,hn⟩:∃n,n=xr.length+1:=⟨_,rfl⟩;simp only[List.length_cons]at c7 HW;rw[<-hn]at c7 HW;have hlen:(0:Int)<(n:Int):=by omega
     have hn0:0<n:=by omega
     obtain⟨R,hRR⟩:∃R,R=Lz.parseU x0.data.toList none:=⟨_,rfl⟩;have HB:Hid (goal=blobR R):=Ih (by rw[hRR];exact hblob);have HR0:=Ih hRR;have cP:Hid (Calls Tryz.prog 6 #[.string x0,.pointer none] W (RParse R W)):=Ih (by rw[hRR];exact Parse_any none (.pointer none) x0 W (hE.below hbW) rfl (fun y h=>by cases h));have HE:=Ih (hE.below hbW);have hneq:(n==0)=false:=by simp;omega
     have HN:=Ih hn;clear hW hR hv hx hg hE hO hd hdd hnull hblob hs hc0 hn hRR;go_enter Tryz.func11,Tryz.ntmps11
     go_wp2_with (rw[<-HN.out,<-HW.out])
     refine cD.out.mono ?_;rintro e w1 ⟨rfl,rfl⟩
     go_wp2_with fail
     refine cP.out.mono ?_;rintro e w2 ⟨v2,k,rfl,hb2,hres⟩;obtain⟨x,hox,hk⟩:=hres.cases;have hb02:=hbW.trans (hb2.mono hbW.size);obtain⟨sc1,us1,pa1,hh1,hs1,pr1,op1,a1,n1,c1,hq1,hf1,qr1,fr1,rfl⟩:=hox.form;have hEV:=(HE.out.below hb2).below ((Below.refl w2.heap.size w2).alloc (Nat.le_refl _) (.cells #[.string sc1,.string us1,.string pa1,.bool hh1,.string hs1,.int .i64 pr1,.bool op1,.slice a1 n1 c1,.bool hq1,.bool hf1,.string qr1,.string fr1] 25));have hbV:=hb02.alloc hb02.size (.cells #[.string sc1,.string us1,.string pa1,.bool hh1,.string hs1,.int .i64 pr1,.bool op1,.slice a1 n1 c1,.bool hq1,.bool hf1,.string qr1,.string fr1] 25);have hrV:(w2.alloc (.cells #[.string sc1,.string us1,.string pa1,.bool hh1,.string hs1,.int .i64 pr1,.bool op1,.slice a1 n1 c1,.bool hq1,.bool hf1,.string qr1,.string fr1] 25)).heap[w2.heap.size]? =some (.cells #[.string sc1,.string us1,.string pa1,.bool hh1,.string hs1,.int .i64 pr1,.bool op1,.slice a1 n1 c1,.bool hq1,.bool hf1,.string qr1,.string fr1] 25 (0,0)):=heap_new _ _
     have hoV:=hox.below ((Below.refl w2.heap.size w2).alloc (Nat.le_refl _) (.cells #[.string sc1,.string us1,.string pa1,.bool hh1,.string hs1,.int .i64 pr1,.bool op1,.slice a1 n1 c1,.bool hq1,.bool hf1,.string qr1,.string fr1] 25));clear hres hox HE cP cD hb2
     go_upto_region 5 with fail
     generalize w2.alloc (.cells #[.string sc1,.string us1,.string pa1,.bool hh1,.string hs1,.int .i64 pr1,.bool op1,.slice a1 n1 c1,.bool hq1,.bool hf1,.string qr1,.string fr1] 25)=V at hEV hbV hrV hoV⊢;generalize w2.heap.size=r2 at hrV⊢;have k0:=rowAt hrV 0 (.string sc1) rfl;rcases hk with⟨hR,hk0⟩|⟨m,hR,_,hk0⟩
     case inr=>
      have hm:=Lz.parse_err (HR0.out.symm.trans hR);have HG:Hid (goal=nullS):=Ih (by rw[HB.out,hR];rfl);have hkb:(k==0)=false:=by rw[hk0];simp;omega
      clear hR hk0 hm HB HR0
      go_wp2_with fail
      go_ret;exact⟨_,rfl,Ih HG.out.symm,hbV⟩
     case inl=>
      have hkb:(k==0)=true:=by rw[hk0];rfl
      have hxs:x.scheme=sc1.data.toList:=by
       obtain⟨_,_,_,_,_,_,_,_,_,_,_,_,_,_,h1,h2,_⟩:=hoV.val.form;rw[h2];simp only[Value.agg.injEq,Array.mk.injEq,List.cons.injEq,Value.string.injEq]at h1;rw[h1.1]
      have hOx:=origOk_parse (HR0.out.symm.trans hR) (fun y h=>by cases h);by_cases h1:sc1.data.toList=Lz.httpS\/sc1.data.toList=Lz.httpsS
      ·have HG:Hid (goal=x.scheme++[58,47,47]++Lz.atU x):=Ih (by rw[HB.out,hR,blobR,if_pos (by rw[hxs];exact h1)]);have cO:=Ih (Origin_def _ x V hoV.val hEV hOx (by rw[hxs];exact def_http h1));rw[<-HG.out]at cO;have HRV:=Ih hrV;by_cases h2:sc1.data.toList=Lz.httpS
       ·have q1:=text_yes (k:=[104,116,116,112]) h2;clear h1 h2 hxs hOx hR hk0 HB HR0 HG hoV hEV hrV
        go_wp2_with (first |(refine wpList_load_row rfl 25 (.tmp 3) rfl r2 rfl 25 _ (0,0) _ HRV.out Tryz.underlying25 rfl urlSize ?_))
        refine cO.out.mono ?_;rintro e w5 ⟨t,rfl,ht,hb5⟩
        go_wp2_with fail
        go_ret;exact⟨_,rfl,ht,below_call hbV hb5⟩
       ·have q1:=text_no (k:=[104,116,116,112]) h2;have q2:=text_yes (k:=[104,116,116,112,115]) (h1.resolve_left h2);clear h1 h2 hxs hOx hR hk0 HB HR0 HG hoV hEV hrV
        go_wp2_with (first |(refine wpList_load_row rfl 25 (.tmp 3) rfl r2 rfl 25 _ (0,0) _ HRV.out Tryz.underlying25 rfl urlSize ?_))
        refine cO.out.mono ?_;rintro e w5 ⟨t,rfl,ht,hb5⟩
        go_wp2_with fail
        go_ret;exact⟨_,rfl,ht,below_call hbV hb5⟩
      ·have HG:Hid (goal=nullS):=Ih (by rw[HB.out,hR,blobR,if_neg (by rw[hxs];exact h1)]);have q1:=text_no (k:=[104,116,116,112]) (fun h=>h1 (Or.inl h));have q2:=text_no (k:=[104,116,116,112,115]) (fun h=>h1 (Or.inr h));clear h1 hxs hOx hR hk0 HB HR0 hoV hEV hrV
       go_wp2_with fail
       go_ret;exact⟨_,rfl,Ih HG.out.symm,hbV⟩
structure PU (r:Nat) (C:Array Value) (u:Lz.UrlL) (W0 V:World):Prop where
 row:V.heap[r]? =some (.cells C 25 (0,0))
 below:Below W0.heap.size W0 V
 env:EnvU V
 own:UrlOwn V (.agg C) u
theorem PU.new {w w2:World} {C:Array Value} {u:Lz.UrlL} (hE:EnvU w2) (hb:Below w.heap.size w w2) (ho:UrlOwn w2 (.agg C) u):PU w2.heap.size C u w (w2.alloc (.cells C 25)):=
 have hba:=(Below.refl w2.heap.size w2).alloc (Nat.le_refl _) (.cells C 25)
 ⟨heap_new _ _,below_call hb hba,hE.below hba,ho.below hba⟩
theorem PU.call {r:Nat} {C:Array Value} {u:Lz.UrlL} {W0 V V':World} (h:PU r C u W0 V) (hb:Below V.heap.size V V'):PU r C u W0 V':=
 ⟨(hb.block _ (row_lt h.row)).trans h.row,below_call h.below hb,h.env.below hb,h.own.below hb⟩
theorem PU.alloc {r:Nat} {C:Array Value} {u:Lz.UrlL} {W0 V:World} (h:PU r C u W0 V) (o:Obj):PU r C u W0 (V.alloc o):=h.call ((Below.refl _ _).alloc (Nat.le_refl _) o)
theorem RParse.open {R:Lz.UR} {w:World} {e:Ending} {w':World} (h:RParse R w e w'):∃(v:Value) (n:Int) (u:Lz.UrlL),e=.returned (.tuple #[v,.int .i64 n])/\Below w.heap.size w w'/\UrlOwn w' v u/\((R=.ok u/\n=0)\/∃k:Nat,R=.er k/\u=zeroU/\n=(k:Int)):=by
 obtain⟨v,n,he,hb,hres⟩:=h;obtain⟨u,h1,h2⟩:=hres.cases;exact⟨v,n,u,he,hb,h1,h2⟩
theorem parse_any0 (s:ByteArray) (w:World) (hE:EnvU w):Calls Tryz.prog 6 #[.string s,.pointer none] w (RParse (Lz.parseU s.data.toList none) w):=Parse_any none (.pointer none) s w hE rfl (fun y h=>by cases h)
theorem same_yes (v1 v2:Value) (u:Lz.UrlL) (w:World) (h1:UrlVal w v1 u) (h2:UrlVal w v2 u) (hL:u.path.length<=1000000000):Calls Tryz.prog 8 #[v1,v2] w (RBool true w):=by
 have:=lawSame_any v1 v2 u u w h1 h2 hL;rw[show decide (u=u)=true by simp]at this;exact this
theorem extract_one (s:ByteArray) (i:Nat) (h:i<s.size):(s.extract i (i+1)).data.toList=[s[i]]:=by
 rw[Lib.extract_data,show i+1-i=1 by omega,List.drop_eq_getElem_cons (by rw[len_of_size];exact h)];rfl
theorem encE (k:Nat) (c:UInt8):Lz.encodeP (Lz.setU k) [c]=if inE k c then[37,Lz.digitU (c.toNat / 16),Lz.digitU (c.toNat%16)]else[c]:=by
 unfold Lz.encodeP inE;rw[List.flatMap_cons,List.flatMap_nil,List.append_nil]
def digB:ByteArray:=⟨#[48,49,50,51,52,53,54,55,56,57,65,66,67,68,69,70]⟩
theorem digB_at:∀h:Fin 16,(digB.extract h.val (h.val+1)).data.toList=[Lz.digitU h.val]:=by decide +kernel
theorem enc_step (k:Nat) (s:ByteArray) (i:Nat) (hi:i<s.size):Lz.encodeP (Lz.setU k) (s.data.toList.take (i+1))=Lz.encodeP (Lz.setU k) (s.data.toList.take i)++Lz.encodeP (Lz.setU k) [s[i]]:=by
 rw[List.take_succ_eq_append_getElem (by rw[len_of_size];exact hi),Lz.enc_app];rfl
theorem Encode06_any (s:ByteArray) (k:Nat) (hk:k<=5) (hs:s.size<=1000000000) (w:World):Calls Tryz.prog 38 #[.string s,.int .i64 (k:Int)] w (RStr (Lz.encodeP (Lz.setU k) s.data.toList) w):=by
 have k0:(0:Int)<=(k:Int):=by omega
 have k6:(k:Int)<=6:=by omega
 have hb00:=Below.refl w.heap.size w;go_enter Tryz.func38,Tryz.ntmps38
 go_wp2_with fail
 go_loopw [5,7] (fun t n wr=>∃(u:ByteArray) (i:Nat),t=.string u/\n=.int .i64 i/\i<=s.size/\u.size<=3*i/\Hid (u.data.toList=Lz.encodeP (Lz.setU k) (s.data.toList.take i))/\Below w.heap.size w wr) (fun _ n _=>s.size-(intOf n).toNat)
 case atStart=>exact⟨⟨#[]⟩,0,rfl,rfl,Nat.zero_le _,Nat.zero_le _,Ih rfl,hb00⟩
 case round=>
  obtain⟨u,i,rfl,rfl,hi,hus,HU,hbw⟩:=hrel;by_cases hlt:i<s.size
  ·have hltI:(i:Int)<(s.size:Int):=by omega
   have hi0:(0:Int)<=(i:Int):=by omega
   obtain⟨c,hc⟩:∃c,c=s[i]:=⟨_,rfl⟩;have hcI:(s[i].toNat:Int)=(c.toNat:Int):=by rw[hc]
   have cI:=Ih (In06_any k hk c wr);have hstep:=enc_step k s i hlt;rw[<-hc,encE]at hstep;have hxz:(s.extract i (i+1)).size=1:=by rw[<-len_of_size,extract_one s i hlt];rfl
   have hxd:(s.extract i (i+1)).data.toList=[c]:=by rw[extract_one s i hlt,hc]
   have n1:¬(9223372036854775807<u.size+1):=by omega
   have n2:¬(9223372036854775807<u.size+1+1):=by omega
   have n3:¬(9223372036854775807<u.size+1+1+1):=by omega
   have HX:=Ih hxd;have HS:=Ih hstep;cases hq:inE k c with
   | false=>
     rw[hq]at cI;have HN:Hid ((u++s.extract i (i+1)).data.toList=Lz.encodeP (Lz.setU k) (s.data.toList.take (i+1))):=Ih (by rw[append_data',HU.out,HX.out,HS.out,hq];rfl);clear hq hxd hstep hc HU HS
     go_wp2_with fail
     refine cI.out.mono ?_;rintro e w1 ⟨rfl,rfl⟩
     go_wp2_with fail
     go_roundw
     case rel=>exact⟨_,i+1,rfl,by go_num,by omega,by rw[ByteArray.size_append,hxz];omega,HN,hbw⟩
     case measure=>simp[intOf];omega
   | true=>
     rw[hq]at cI;obtain⟨h,hh⟩:∃h,h=c.toNat / 16:=⟨_,rfl⟩;obtain⟨r,hr⟩:∃r,r=c.toNat%16:=⟨_,rfl⟩;have hcl:=c.toNat_lt;have h16:h<16:=by omega
     have r16:r<16:=by omega
     have a1:(c.toNat:Int) / 16=(h:Int):=by omega
     have a2:Int.tdiv (c.toNat:Int) 16=(h:Int):=by rw[Int.tdiv_eq_ediv_of_nonneg (by omega)];exact a1
     have a3:(c.toNat:Int)%16=(r:Int):=by omega
     have a4:Int.tmod (c.toNat:Int) 16=(r:Int):=by rw[Int.tmod_eq_emod_of_nonneg (by omega)];exact a3
     have b1:IntKind.u8.wrap (h:Int)=(h:Int):=IntWalk.u8_in _ (by omega);have b2:IntKind.u8.wrap ((h:Int)+1)=(h:Int)+1:=IntWalk.u8_in _ (by omega);have b3:IntKind.u8.wrap (r:Int)=(r:Int):=IntWalk.u8_in _ (by omega);have b4:IntKind.u8.wrap ((r:Int)+1)=(r:Int)+1:=IntWalk.u8_in _ (by omega);have d1:(0:Int)<=(h:Int):=by omega
     have d2:(h:Int)+1<=16:=by omega
     have d3:(0:Int)<=(r:Int):=by omega
     have d4:(r:Int)+1<=16:=by omega
     have z1:(digB.extract h (h+1)).size=1:=by rw[<-len_of_size,digB_at ⟨h,h16⟩];rfl
     have z2:(digB.extract r (r+1)).size=1:=by rw[<-len_of_size,digB_at ⟨r,r16⟩];rfl
     have HN:Hid ((u++⟨#[37]⟩++digB.extract h (h+1)++digB.extract r (r+1)).data.toList=Lz.encodeP (Lz.setU k) (s.data.toList.take (i+1))):=Ih (by rw[append_data',append_data',append_data',digB_at ⟨h,h16⟩,digB_at ⟨r,r16⟩,HU.out,HS.out,hq,if_pos rfl,<-hh,<-hr];simp);clear hq hxd hstep hc HU HS hh hr
     go_wp2_with fail
     refine cI.out.mono ?_;rintro e w1 ⟨rfl,rfl⟩
     go_wp2_with fail
     go_quiet (fail)
     have hbq:=below_drewN hbw nq;generalize wr.drewN nq=wq at hbq⊢
     go_wp2_with fail
     go_roundw
     case rel=>exact⟨_,i+1,rfl,by go_num,by omega,by rw[ByteArray.size_append,ByteArray.size_append,ByteArray.size_append];have e1:(⟨#[37]⟩:ByteArray).size=1:=rfl;simp only[digB]at z1 z2;omega,HN,hbq⟩
     case measure=>simp[intOf];omega
  ·have hltI:¬(i:Int)<(s.size:Int):=by omega
   have hu:u.data.toList=Lz.encodeP (Lz.setU k) s.data.toList:=by rw[HU.out,List.take_of_length_le (by rw[len_of_size];omega)]
   have Hu:=Ih hu;clear hu HU
   go_wp2_with fail
   go_ret;exact⟨u,rfl,Hu,hbw⟩
end Go.Proofs.YtipndhbgehdeoaaGreatDoor
