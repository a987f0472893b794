/-
  Package match: self.
-/
import Derived.Test.YtjhccadmmnjpeaaGreatDoorT15
import Derived.Test.YtjhccadmmnjpeaaGreatDoorT36
set_option maxHeartbeats 8000000
set_option maxRecDepth 100000
namespace Go.Proofs.YtjhccadmmnjpeaaGreatDoor
open Go.RowKit
theorem textOk_wq {u:Lz.UrlL} (hN:Lz.NU u) (hw:Lz.wq u<=100000):TextOk u:=by
 have h1:u.host.length<=Lz.wq u:=by unfold Lz.wq Lz.wt;omega
 have h2:=Lz.path_wq u;have h3:=Lz.textU_len (u:=u) hN.port;have hp:=hN.port;refine⟨by omega,by omega,?_,?_,by omega⟩
 ·rcases hp with h|⟨n,h,_⟩<;>omega
 ·rcases hp with h|⟨n,h,hn,_⟩<;>omega
theorem textOk_parse {s:List UInt8} {b:Option Lz.UrlL} {u:Lz.UrlL} (e:Lz.parseU s b=.ok u) (hb:∀x,b=some x->∃t,Lz.parseU t none=.ok x):TextOk u:=
 textOk_wq (Lz.parse_form e) (by have:=Lz.parse_wq e hb;omega)
structure OrigOk (u:Lz.UrlL):Prop where
 scheme:u.scheme.length<=1000000000
 host:u.host.length<=1000000000
 p0: -9223372036854775808<=u.port
 p1:u.port<=9223372036854775807
theorem origOk_parse {s:List UInt8} {b:Option Lz.UrlL} {u:Lz.UrlL} (e:Lz.parseU s b=.ok u) (hb:∀x,b=some x->∃t,Lz.parseU t none=.ok x):OrigOk u:=by
 have h:=textOk_parse e hb;have h2:=Lz.parse_wq e hb;refine⟨?_,h.host,h.p0,h.p1⟩;have h1:u.scheme.length<=Lz.wq u:=by unfold Lz.wq Lz.wt;omega
 omega
structure PO (r:Nat) (C:Array Value) (u:Lz.UrlL) (W0 V:World):Prop where
 row:V.heap[r]? =some (.cells C 36 (0,0))
 below:Below W0.heap.size W0 V
 env:EnvU V
 val:UrlVal V (.agg C) u
theorem PO.call {r:Nat} {C:Array Value} {u:Lz.UrlL} {W0 V V':World} (h:PO r C u W0 V) (hb:Below V.heap.size V V'):PO r C u W0 V':=
 ⟨(hb.block _ (row_lt h.row)).trans h.row,below_call h.below hb,h.env.below hb,h.val.below hb⟩
theorem PO.drew {r:Nat} {C:Array Value} {u:Lz.UrlL} {W0 V:World} (h:PO r C u W0 V):PO r C u W0 V.drew:=h.call (Below.refl _ _).drew
theorem Origin_def (v:Value) (u:Lz.UrlL) (w:World) (hv:UrlVal w v u) (hE:EnvU w) (hO:OrigOk u) (hd:Lz.defP u.scheme≠ -1):Calls Tryz.prog 173 #[v] w (RStr (u.scheme++[58,47,47]++Lz.atU u) w):=by
 obtain⟨goal,hg⟩:∃goal,goal=u.scheme++[58,47,47]++Lz.atU u:=⟨_,rfl⟩;rw[<-hg];have HG:=Ih hg;obtain⟨sch,usr,pas,hh,hst,prt,opq,a,c,xs,hq,hf,qry,frg,rfl,hu,hx⟩:=hv.form;obtain⟨C,hC⟩:∃C:Array Value,C= #[.string sch,.string usr,.string pas,.bool hh,.string hst,.int .i64 prt,.bool opq,.slice a xs.length c,.bool hq,.bool hf,.string qry,.string frg]:=⟨_,rfl⟩;have hss:u.scheme=sch.data.toList:=by rw[hu]
 have hs1:sch.size<=1000000000:=by rw[<-len_of_size,<-hss];exact hO.scheme
 obtain⟨W,hW⟩:∃W,W=w.alloc (.cells #[.string sch,.string usr,.string pas,.bool hh,.string hst,.int .i64 prt,.bool opq,.slice a xs.length c,.bool hq,.bool hf,.string qry,.string frg] 36):=⟨_,rfl⟩;have hbW:Below w.heap.size w W:=by rw[hW];exact(Below.refl _ w).alloc (Nat.le_refl _) _
 have hR:W.heap[w.heap.size]? =some (.cells #[.string sch,.string usr,.string pas,.bool hh,.string hst,.int .i64 prt,.bool opq,.slice a xs.length c,.bool hq,.bool hf,.string qry,.string frg] 36 (0,0)):=by rw[hW];exact heap_new _ _
 have hP:PO w.heap.size #[.string sch,.string usr,.string pas,.bool hh,.string hst,.int .i64 prt,.bool opq,.slice a xs.length c,.bool hq,.bool hf,.string qry,.string frg] u w W:=⟨hR,hbW,hE.below hbW,hv.below hbW⟩;have hPd:=hP.drew
 have cA:Hid (∀V,PO w.heap.size #[.string sch,.string usr,.string pas,.bool hh,.string hst,.int .i64 prt,.bool opq,.slice a xs.length c,.bool hq,.bool hf,.string qry,.string frg] u w V->Calls Tryz.prog 72 #[.agg #[.string sch,.string usr,.string pas,.bool hh,.string hst,.int .i64 prt,.bool opq,.slice a xs.length c,.bool hq,.bool hf,.string qry,.string frg]] V fun e w'=>∃t:ByteArray,e=.returned (.string t)/\Hid (t.data.toList=Lz.atU u)/\t.size<=1000000100/\PO w.heap.size #[.string sch,.string usr,.string pas,.bool hh,.string hst,.int .i64 prt,.bool opq,.slice a xs.length c,.bool hq,.bool hf,.string qry,.string frg] u w w'):=Ih (by
  intro V hV;refine(at_any _ u V hV.val hV.env.h hO.p0 hO.p1 hO.host).mono ?_;rintro e w' ⟨t,he,ht,hb'⟩;refine⟨t,he,ht,?_,hV.call hb'⟩;rw[<-len_of_size,ht.out];unfold Lz.atU;split
  ·have:=hO.host;omega
  ·have h1:=itoa_len2 hO.p0 hO.p1;have h2:=hO.host;simp only[List.length_append,List.length_singleton];omega)
 have c0:=rowAt hR 0 (.string sch) rfl;obtain⟨d,hdd⟩:∃d,d=Lz.defP sch.data.toList:=⟨_,rfl⟩;have hdb:(d== -1)=false:=by rw[hdd,<-hss];exact beq_eq_false_iff_ne.2 hd
 have hdb2:(d != -1)=true:=by rw[bne,hdb];rfl
 have cD:Hid (Calls Tryz.prog 175 #[.string sch] W fun e w'=>e=.returned (.int .i64 d)/\W=w'):=Ih (by rw[hdd];exact Default_any sch W);have n1:¬(9223372036854775807<sch.size+3):=by omega
 have HG2:Hid (goal=sch.data.toList++[58,47,47]++Lz.atU u):=Ih (by rw[HG.out,hss]);have HW:=Ih hW;have HP:=Ih hP;clear hC hW hR hv hx hg hE hu hss hO hd hdd HG hP;go_enter Tryz.func173,Tryz.ntmps173
 go_wp2_with (rw[<-HW.out])
 refine cD.out.mono ?_;rintro e w1 ⟨rfl,rfl⟩
 go_upto_region 2 with fail
 go_cut [2] (fun s wx=>∃t:ByteArray,s=.string t/\Hid (t.data.toList=goal)/\Below w.heap.size w wx)
 case first=>
  have hPw:=HP.out
  go_region_held3 (fun V=>(V.cell? ⟨w.heap.size,0,none⟩=some (.string sch)/\V.cell? ⟨w.heap.size,1,none⟩=some (.string usr)/\V.cell? ⟨w.heap.size,2,none⟩=some (.string pas)/\V.cell? ⟨w.heap.size,3,none⟩=some (.bool hh)/\V.cell? ⟨w.heap.size,4,none⟩=some (.string hst)/\V.cell? ⟨w.heap.size,5,none⟩=some (.int .i64 prt)/\V.cell? ⟨w.heap.size,6,none⟩=some (.bool opq)/\V.cell? ⟨w.heap.size,7,none⟩=some (.slice a xs.length c)/\V.cell? ⟨w.heap.size,8,none⟩=some (.bool hq)/\V.cell? ⟨w.heap.size,9,none⟩=some (.bool hf)/\V.cell? ⟨w.heap.size,10,none⟩=some (.string qry)/\V.cell? ⟨w.heap.size,11,none⟩=some (.string frg))/\PO w.heap.size #[.string sch,.string usr,.string pas,.bool hh,.string hst,.int .i64 prt,.bool opq,.slice a xs.length c,.bool hq,.bool hf,.string qry,.string frg] u w V) (first |exact⟨row12 (PO.row (by assumption)),by assumption⟩) (first |(go_at_call 72;refine(cA.out _ (by assumption)).mono ?_;rintro e w4 ⟨t,rfl,ht,hts,hP4⟩;have n2:¬(9223372036854775807<sch.size+3+t.size):=(by omega)))
  go_wp2_with fail
  go_meet;exact⟨_,rfl,by show _=_;rw[HG2.out,append_data',append_data',ht.out],hP4.below⟩
 case rest=>
  obtain⟨t,rfl,ht,hb⟩:=hcut
  go_wp2_with fail
  go_ret;exact⟨t,rfl,ht,hb⟩
theorem ParseRes.cases {r:Lz.UR} {w:World} {v:Value} {n:Int} (h:ParseRes r w v n):∃u,UrlOwn w v u/\((r=.ok u/\n=0)\/∃k:Nat,r=.er k/\u=zeroU/\n=(k:Int)):=by
 cases r with
 | ok u=>exact⟨u,h.2,Or.inl ⟨rfl,h.1⟩⟩
 | er k=>exact⟨zeroU,h.2,Or.inr ⟨k,rfl,rfl,h.1⟩⟩
def nullS:List UInt8:=[110,117,108,108]
theorem originU_null {u:Lz.UrlL} (hd:Lz.defP u.scheme= -1) (h:¬(u.scheme=Lz.blobS/\u.opq=true/\u.path≠[])):Lz.originU u=nullS:=by
 unfold Lz.originU;rw[if_neg (by simp[hd]),if_neg h];rfl
theorem def_http {s:List UInt8} (h:s=Lz.httpS\/s=Lz.httpsS):Lz.defP s≠ -1:=by rcases h with rfl|rfl<;>decide
def blobR:Lz.UR->List UInt8
 | .ok x=>if x.scheme=Lz.httpS\/x.scheme=Lz.httpsS then x.scheme++[58,47,47]++Lz.atU x else nullS
 | .er _=>nullS
theorem originU_blob {u:Lz.UrlL} (hd:Lz.defP u.scheme= -1) (h:u.scheme=Lz.blobS/\u.opq=true/\u.path≠[]):Lz.originU u=blobR (Lz.parseU (u.path.headD []) none):=by
 unfold Lz.originU;rw[if_neg (by simp[hd]),if_pos h];cases Lz.parseU (u.path.headD []) none<;>rfl
theorem Origin_any (v:Value) (u:Lz.UrlL) (w:World) (hv:UrlVal w v u) (hE:EnvU w) (hO:OrigOk u):Calls Tryz.prog 173 #[v] w (RStr (Lz.originU u) w):=by
 by_cases hd:Lz.defP u.scheme= -1
 case neg=>
  rw[show Lz.originU u=u.scheme++[58,47,47]++Lz.atU u by unfold Lz.originU;rw[if_pos hd]];exact Origin_def v u w hv hE hO hd
 obtain⟨goal,hg⟩:∃goal,goal=Lz.originU u:=⟨_,rfl⟩;rw[<-hg];have hnull:=fun h=>hg.trans (originU_null hd h);have hblob:=fun h=>hg.trans (originU_blob hd h);obtain⟨sch,usr,pas,hh,hst,prt,opq,a,c,xs,hq,hf,qry,frg,rfl,rfl,hx⟩:=hv.form;obtain⟨W,hW⟩:∃W,W=w.alloc (.cells #[.string sch,.string usr,.string pas,.bool hh,.string hst,.int .i64 prt,.bool opq,.slice a xs.length c,.bool hq,.bool hf,.string qry,.string frg] 36):=⟨_,rfl⟩;have hbW:Below w.heap.size w W:=by rw[hW];exact(Below.refl _ w).alloc (Nat.le_refl _) _
 have hR:W.heap[w.heap.size]? =some (.cells #[.string sch,.string usr,.string pas,.bool hh,.string hst,.int .i64 prt,.bool opq,.slice a xs.length c,.bool hq,.bool hf,.string qry,.string frg] 36 (0,0)):=by rw[hW];exact heap_new _ _
 have c0:=rowAt hR 0 (.string sch) rfl;have c6:=rowAt hR 6 (.bool opq) rfl;have c7:=rowAt hR 7 (.slice a xs.length c) rfl;obtain⟨d,hdd⟩:∃d,d=Lz.defP sch.data.toList:=⟨_,rfl⟩;have hdb:(d== -1)=true:=by rw[hdd];simpa using hd
 have hdb2:(d != -1)=false:=by rw[bne,hdb];rfl
 have cD:Hid (Calls Tryz.prog 175 #[.string sch] W fun e w'=>e=.returned (.int .i64 d)/\W=w'):=Ih (by rw[hdd];exact Default_any sch W);have HW:=Ih hW;by_cases hs:sch.data.toList=Lz.blobS
 case neg=>
  have e0:=text_no (k:=[98,108,111,98]) hs;have HG:Hid (goal=nullS):=Ih (hnull (fun h=>hs h.1));clear hW hR hv hx hg hE hO hd hdd hnull hblob hs;go_enter Tryz.func173,Tryz.ntmps173
  go_wp2_with (rw[<-HW.out])
  refine cD.out.mono ?_;rintro e w1 ⟨rfl,rfl⟩
  go_wp2_with fail
  go_ret;exact⟨_,rfl,Ih HG.out.symm,hbW⟩
 have e0:=text_yes (k:=[98,108,111,98]) hs;cases opq with
 | false=>
   have HG:Hid (goal=nullS):=Ih (hnull (fun h=>by cases h.2.1));clear hW hR hv hx hg hE hO hd hdd hnull hblob hs;go_enter Tryz.func173,Tryz.ntmps173
   go_wp2_with (rw[<-HW.out])
   refine cD.out.mono ?_;rintro e w1 ⟨rfl,rfl⟩
   go_wp2_with fail
   go_ret;exact⟨_,rfl,Ih HG.out.symm,hbW⟩
 | true=>
   cases xs with
   | nil=>
     have HG:Hid (goal=nullS):=Ih (hnull (fun h=>h.2.2 rfl));simp only[List.length_nil]at c7 HW;clear hW hR hv hx hg hE hO hd hdd hnull hblob hs;go_enter Tryz.func173,Tryz.ntmps173
     go_wp2_with (rw[<-HW.out])
     refine cD.out.mono ?_;rintro e w1 ⟨rfl,rfl⟩
     go_wp2_with fail
     go_ret;exact⟨_,rfl,Ih HG.out.symm,hbW⟩
   | cons x0 xr=>
     have hblob:=hblob ⟨hs,rfl,by simp⟩;obtain⟨G,o,ha,hG,hc0⟩:=hx 0 x0 rfl;subst ha;have hc1:W.cell? ⟨G,o+0,none⟩=some (.string x0):=by rw[hbW.cell (p:=⟨G,o+0,none⟩) hG];exact hc0
     have hc2:W.cell? ⟨G,o,none⟩=some (.string x0):=hc1;obtain⟨n,hn⟩:∃n,n=xr.length+1:=⟨_,rfl⟩;simp only[List.length_cons]at c7 HW;rw[<-hn]at c7 HW;have hlen:(0:Int)<(n:Int):=by omega
     have hn0:0<n:=by omega
     obtain⟨R,hRR⟩:∃R,R=Lz.parseU x0.data.toList none:=⟨_,rfl⟩;have HB:Hid (goal=blobR R):=Ih (by rw[hRR];exact hblob);have HR0:=Ih hRR;have cP:Hid (Calls Tryz.prog 20 #[.string x0,.pointer none] W (RParseU R W)):=Ih (by rw[hRR];exact ParseU_any none (.pointer none) x0 W (hE.below hbW) rfl (fun y h=>by cases h));have HE:=Ih (hE.below hbW);have hneq:(n==0)=false:=by simp;omega
     have HN:=Ih hn;clear hW hR hv hx hg hE hO hd hdd hnull hblob hs hc0 hn hRR;go_enter Tryz.func173,Tryz.ntmps173
     go_wp2_with (rw[<-HN.out,<-HW.out])
     refine cD.out.mono ?_;rintro e w1 ⟨rfl,rfl⟩
     go_wp2_with fail
     refine cP.out.mono ?_;rintro e w2 ⟨v2,k,rfl,hb2,hres⟩;obtain⟨x,hox,hk⟩:=hres.cases;have hb02:=hbW.trans (hb2.mono hbW.size);obtain⟨sc1,us1,pa1,hh1,hs1,pr1,op1,a1,n1,c1,hq1,hf1,qr1,fr1,rfl⟩:=hox.form;have hEV:=(HE.out.below hb2).below ((Below.refl w2.heap.size w2).alloc (Nat.le_refl _) (.cells #[.string sc1,.string us1,.string pa1,.bool hh1,.string hs1,.int .i64 pr1,.bool op1,.slice a1 n1 c1,.bool hq1,.bool hf1,.string qr1,.string fr1] 36));have hbV:=hb02.alloc hb02.size (.cells #[.string sc1,.string us1,.string pa1,.bool hh1,.string hs1,.int .i64 pr1,.bool op1,.slice a1 n1 c1,.bool hq1,.bool hf1,.string qr1,.string fr1] 36);have hrV:(w2.alloc (.cells #[.string sc1,.string us1,.string pa1,.bool hh1,.string hs1,.int .i64 pr1,.bool op1,.slice a1 n1 c1,.bool hq1,.bool hf1,.string qr1,.string fr1] 36)).heap[w2.heap.size]? =some (.cells #[.string sc1,.string us1,.string pa1,.bool hh1,.string hs1,.int .i64 pr1,.bool op1,.slice a1 n1 c1,.bool hq1,.bool hf1,.string qr1,.string fr1] 36 (0,0)):=heap_new _ _
     have hoV:=hox.below ((Below.refl w2.heap.size w2).alloc (Nat.le_refl _) (.cells #[.string sc1,.string us1,.string pa1,.bool hh1,.string hs1,.int .i64 pr1,.bool op1,.slice a1 n1 c1,.bool hq1,.bool hf1,.string qr1,.string fr1] 36));clear hres hox HE cP cD hb2
     go_upto_region 5 with fail
     generalize w2.alloc (.cells #[.string sc1,.string us1,.string pa1,.bool hh1,.string hs1,.int .i64 pr1,.bool op1,.slice a1 n1 c1,.bool hq1,.bool hf1,.string qr1,.string fr1] 36)=V at hEV hbV hrV hoV⊢;generalize w2.heap.size=r2 at hrV⊢;have k0:=rowAt hrV 0 (.string sc1) rfl;rcases hk with⟨hR,hk0⟩|⟨m,hR,_,hk0⟩
     case inr=>
      have hm:=Lz.parse_err (HR0.out.symm.trans hR);have HG:Hid (goal=nullS):=Ih (by rw[HB.out,hR];rfl);have hkb:(k==0)=false:=by rw[hk0];simp;omega
      clear hR hk0 hm HB HR0
      go_wp2_with fail
      go_ret;exact⟨_,rfl,Ih HG.out.symm,hbV⟩
     case inl=>
      have hkb:(k==0)=true:=by rw[hk0];rfl
      have hxs:x.scheme=sc1.data.toList:=by
       obtain⟨_,_,_,_,_,_,_,_,_,_,_,_,_,_,h1,h2,_⟩:=hoV.val.form;rw[h2];simp only[Value.agg.injEq,Array.mk.injEq,List.cons.injEq,Value.string.injEq]at h1;rw[h1.1]
      have hOx:=origOk_parse (HR0.out.symm.trans hR) (fun y h=>by cases h);by_cases h1:sc1.data.toList=Lz.httpS\/sc1.data.toList=Lz.httpsS
      ·have HG:Hid (goal=x.scheme++[58,47,47]++Lz.atU x):=Ih (by rw[HB.out,hR,blobR,if_pos (by rw[hxs];exact h1)]);have cO:=Ih (Origin_def _ x V hoV.val hEV hOx (by rw[hxs];exact def_http h1));rw[<-HG.out]at cO;have HRV:=Ih hrV;by_cases h2:sc1.data.toList=Lz.httpS
       ·have q1:=text_yes (k:=[104,116,116,112]) h2;clear h1 h2 hxs hOx hR hk0 HB HR0 HG hoV hEV hrV
        go_wp2_with (first |(refine wpList_load_row rfl 36 (.tmp 3) rfl r2 rfl 36 _ (0,0) _ HRV.out Tryz.underlying36 rfl urlSize ?_))
        refine cO.out.mono ?_;rintro e w5 ⟨t,rfl,ht,hb5⟩
        go_wp2_with fail
        go_ret;exact⟨_,rfl,ht,below_call hbV hb5⟩
       ·have q1:=text_no (k:=[104,116,116,112]) h2;have q2:=text_yes (k:=[104,116,116,112,115]) (h1.resolve_left h2);clear h1 h2 hxs hOx hR hk0 HB HR0 HG hoV hEV hrV
        go_wp2_with (first |(refine wpList_load_row rfl 36 (.tmp 3) rfl r2 rfl 36 _ (0,0) _ HRV.out Tryz.underlying36 rfl urlSize ?_))
        refine cO.out.mono ?_;rintro e w5 ⟨t,rfl,ht,hb5⟩
        go_wp2_with fail
        go_ret;exact⟨_,rfl,ht,below_call hbV hb5⟩
      ·have HG:Hid (goal=nullS):=Ih (by rw[HB.out,hR,blobR,if_neg (by rw[hxs];exact h1)]);have q1:=text_no (k:=[104,116,116,112]) (fun h=>h1 (Or.inl h));have q2:=text_no (k:=[104,116,116,112,115]) (fun h=>h1 (Or.inr h));clear h1 hxs hOx hR hk0 HB HR0 hoV hEV hrV
       go_wp2_with fail
       go_ret;exact⟨_,rfl,Ih HG.out.symm,hbV⟩
attribute [local go_sem ↓] Go.wp_at_zero Go.wp_at_succ
theorem UOk.orig {u:Lz.UrlL} (h:UOk u):OrigOk u:=by
 have h1:=h.wq;unfold Lz.wq Lz.wt at h1;have hp:=h.nu.port;refine⟨by omega,by omega,?_,?_⟩
 ·rcases hp with h|⟨n,h,_⟩<;>omega
 ·rcases hp with h|⟨n,h,hn,_⟩<;>omega
theorem selfM_any (v:Value) (u:Lz.UrlL) (v2:Value) (own:Lz.UrlL) (w:World) (hE:EnvU w) (hv:UrlVal w v u) (hU:UOk u) (hv2:UrlVal w v2 own) (hO:UOk own):Calls Tryz.prog 115 #[v,v2] w (RBool (Lz.selfM u own) w):=by
 obtain⟨sc1,us1,pa1,hh1,hs1,pr1,op1,a1,n1,c1,hq1,hf1,qr1,fr1,rfl,e0,e3,e4,e5,_,hv⟩:=hv.letters;obtain⟨sc2,us2,pa2,hh2,hs2,pr2,op2,a2,n2,c2,hq2,hf2,qr2,fr2,rfl,f0,f3,f4,f5,_,hv2⟩:=hv2.letters;obtain⟨R,hR⟩:∃R,R=Lz.selfM u own:=⟨_,rfl⟩;rw[<-hR];obtain⟨q,hq⟩:∃q,q=(Lz.originU own != Lz.nullS&&Lz.originU own==Lz.originU u):=⟨_,rfl⟩;obtain⟨al,hal⟩:∃al,al=Lz.alikeM u own:=⟨_,rfl⟩;obtain⟨sf,hsf⟩:∃sf,sf=Lz.saferM u own:=⟨_,rfl⟩;obtain⟨d1,hd1⟩:∃d,d=Lz.defP sc1.data.toList:=⟨_,rfl⟩;obtain⟨d2,hd2⟩:∃d,d=Lz.defP sc2.data.toList:=⟨_,rfl⟩;obtain⟨g1,hg1⟩:∃d,d=Lz.effP u:=⟨_,rfl⟩;obtain⟨g2,hg2⟩:∃d,d=Lz.effP own:=⟨_,rfl⟩;obtain⟨b1,hb1⟩:∃b,b=(sc1.toList==[104,116,116,112,115]):=⟨_,rfl⟩;obtain⟨b2,hb2⟩:∃b,b=(sc1.toList==[119,115,115]):=⟨_,rfl⟩;obtain⟨b3,hb3⟩:∃b,b=(sc2.toList==[104,116,116,112]):=⟨_,rfl⟩;obtain⟨b4,hb4⟩:∃b,b=(sc1.toList==[119,115]):=⟨_,rfl⟩;obtain⟨b5,hb5⟩:∃b,b=(hs1.toList==hs2.toList):=⟨_,rfl⟩;have bl:∀(s:ByteArray) (k:List UInt8),(s.data.toList==k)=(s.toList==k):=fun s k=>by rw[Lib.toList_data]
 have HR:Hid (R=(q||(hh1&&(hh2&&(b5&&(al&&sf)))))):=by
  show _=_;rw[hR,hq,hal,hsf,hb5];unfold Lz.selfM;rw[e3,f3,e4,f4,Lib.toList_data,Lib.toList_data]
 have HS:Hid (sf=(b1||(b2||(b3&&b4)))):=by
  show _=_;rw[hsf,hb1,hb2,hb3,hb4];unfold Lz.saferM;rw[e0,f0,bl,bl,bl,bl];rfl
 have HA:Hid (al=((pr1==pr2)||((g1==d1)&&(g2==d2)))):=by
  show _=_;rw[hal,hg1,hg2,hd1,hd2];unfold Lz.alikeM;rw[e5,f5,e0,f0]
 have HB:Hid ((sc1.toList==[104,116,116,112,115])=b1/\(sc1.toList==[119,115,115])=b2/\(sc2.toList==[104,116,116,112])=b3/\(sc1.toList==[119,115])=b4/\(hs1.toList==hs2.toList)=b5):=Ih ⟨hb1.symm,hb2.symm,hb3.symm,hb4.symm,hb5.symm⟩;obtain⟨W,hW⟩:∃W,W=(w.alloc (.cells #[.string sc1,.string us1,.string pa1,.bool hh1,.string hs1,.int .i64 pr1,.bool op1,.slice a1 n1 c1,.bool hq1,.bool hf1,.string qr1,.string fr1] 36)).alloc (.cells #[.string sc2,.string us2,.string pa2,.bool hh2,.string hs2,.int .i64 pr2,.bool op2,.slice a2 n2 c2,.bool hq2,.bool hf2,.string qr2,.string fr2] 36):=⟨_,rfl⟩;have hbW:Below w.heap.size w W:=by rw[hW];exact((Below.refl _ w).alloc (Nat.le_refl _) _).alloc (by simp) _
 have hRU:W.heap[w.heap.size]? =some (.cells #[.string sc1,.string us1,.string pa1,.bool hh1,.string hs1,.int .i64 pr1,.bool op1,.slice a1 n1 c1,.bool hq1,.bool hf1,.string qr1,.string fr1] 36 (0,0)):=by
  rw[hW,Below.heap_alloc _ _ _ (by simp)];exact heap_new _ _
 have hRO:W.heap[w.heap.size+1]? =some (.cells #[.string sc2,.string us2,.string pa2,.bool hh2,.string hs2,.int .i64 pr2,.bool op2,.slice a2 n2 c2,.bool hq2,.bool hf2,.string qr2,.string fr2] 36 (0,0)):=by rw[hW];exact heap_new2 _ _ _
 have HW:=Ih hW;have hvW:=hv.below hbW;have hv2W:=hv2.below hbW;have hEW:=hE.below hbW;have cO1:Hid (∀V,Below W.heap.size W V->Calls Tryz.prog 173 #[.agg #[.string sc1,.string us1,.string pa1,.bool hh1,.string hs1,.int .i64 pr1,.bool op1,.slice a1 n1 c1,.bool hq1,.bool hf1,.string qr1,.string fr1]] V fun e w'=>∃tp:ByteArray,e=.returned (.string tp)/\Hid (tp.data.toList=Lz.originU u)/\Below W.heap.size W w'):=Ih (fun V hV=>(Origin_any _ u V (hvW.below hV) (hEW.below hV) hU.orig).mono fun e w' ⟨tp,h1,h2,h3⟩=>⟨tp,h1,h2,hV.trans (h3.mono hV.size)⟩);have cO2:Hid (∀V,Below W.heap.size W V->Calls Tryz.prog 173 #[.agg #[.string sc2,.string us2,.string pa2,.bool hh2,.string hs2,.int .i64 pr2,.bool op2,.slice a2 n2 c2,.bool hq2,.bool hf2,.string qr2,.string fr2]] V fun e w'=>∃tp:ByteArray,e=.returned (.string tp)/\Hid (tp.data.toList=Lz.originU own)/\Below W.heap.size W w'):=Ih (fun V hV=>(Origin_any _ own V (hv2W.below hV) (hEW.below hV) hO.orig).mono fun e w' ⟨tp,h1,h2,h3⟩=>⟨tp,h1,h2,hV.trans (h3.mono hV.size)⟩)
 have cE1:Hid (∀V,Below W.heap.size W V->Calls Tryz.prog 174 #[.agg #[.string sc1,.string us1,.string pa1,.bool hh1,.string hs1,.int .i64 pr1,.bool op1,.slice a1 n1 c1,.bool hq1,.bool hf1,.string qr1,.string fr1]] V fun e w'=>e=.returned (.int .i64 g1)/\Below W.heap.size W w'):=Ih (fun V hV=>(effective_any _ u V (hvW.below hV)).mono fun e w' ⟨h1,h2⟩=>⟨by rw[h1,hg1],hV.trans (h2.mono hV.size)⟩);have cE2:Hid (∀V,Below W.heap.size W V->Calls Tryz.prog 174 #[.agg #[.string sc2,.string us2,.string pa2,.bool hh2,.string hs2,.int .i64 pr2,.bool op2,.slice a2 n2 c2,.bool hq2,.bool hf2,.string qr2,.string fr2]] V fun e w'=>e=.returned (.int .i64 g2)/\Below W.heap.size W w'):=Ih (fun V hV=>(effective_any _ own V (hv2W.below hV)).mono fun e w' ⟨h1,h2⟩=>⟨by rw[h1,hg2],hV.trans (h2.mono hV.size)⟩);have cD1:Hid (∀V,Below W.heap.size W V->Calls Tryz.prog 175 #[.string sc1] V fun e w'=>e=.returned (.int .i64 d1)/\Below W.heap.size W w'):=Ih (fun V hV=>(Default_any sc1 V).mono fun e w' ⟨h1,h2⟩=>⟨by rw[h1,hd1],h2▸hV⟩)
 have cD2:Hid (∀V,Below W.heap.size W V->Calls Tryz.prog 175 #[.string sc2] V fun e w'=>e=.returned (.int .i64 d2)/\Below W.heap.size W w'):=Ih (fun V hV=>(Default_any sc2 V).mono fun e w' ⟨h1,h2⟩=>⟨by rw[h1,hd2],h2▸hV⟩)
 have hC:Hid (∀V,Below W.heap.size W V->(V.cell? ⟨w.heap.size,0,none⟩=some (.string sc1)/\V.cell? ⟨w.heap.size,1,none⟩=some (.string us1)/\V.cell? ⟨w.heap.size,2,none⟩=some (.string pa1)/\V.cell? ⟨w.heap.size,3,none⟩=some (.bool hh1)/\V.cell? ⟨w.heap.size,4,none⟩=some (.string hs1)/\V.cell? ⟨w.heap.size,5,none⟩=some (.int .i64 pr1)/\V.cell? ⟨w.heap.size,6,none⟩=some (.bool op1)/\V.cell? ⟨w.heap.size,7,none⟩=some (.slice a1 n1 c1)/\V.cell? ⟨w.heap.size,8,none⟩=some (.bool hq1)/\V.cell? ⟨w.heap.size,9,none⟩=some (.bool hf1)/\V.cell? ⟨w.heap.size,10,none⟩=some (.string qr1)/\V.cell? ⟨w.heap.size,11,none⟩=some (.string fr1))/\(V.cell? ⟨w.heap.size+1,0,none⟩=some (.string sc2)/\V.cell? ⟨w.heap.size+1,1,none⟩=some (.string us2)/\V.cell? ⟨w.heap.size+1,2,none⟩=some (.string pa2)/\V.cell? ⟨w.heap.size+1,3,none⟩=some (.bool hh2)/\V.cell? ⟨w.heap.size+1,4,none⟩=some (.string hs2)/\V.cell? ⟨w.heap.size+1,5,none⟩=some (.int .i64 pr2)/\V.cell? ⟨w.heap.size+1,6,none⟩=some (.bool op2)/\V.cell? ⟨w.heap.size+1,7,none⟩=some (.slice a2 n2 c2)/\V.cell? ⟨w.heap.size+1,8,none⟩=some (.bool hq2)/\V.cell? ⟨w.heap.size+1,9,none⟩=some (.bool hf2)/\V.cell? ⟨w.heap.size+1,10,none⟩=some (.string qr2)/\V.cell? ⟨w.heap.size+1,11,none⟩=some (.string fr2))):=Ih (fun V hV=>⟨row12 ((hV.block _ (row_lt hRU)).trans hRU),row12 ((hV.block _ (row_lt hRO)).trans hRO)⟩)
 have hB0:Below W.heap.size W W:=Below.refl _ _;have Hq:=Ih hq;clear hR hW hq hal hsf hd1 hd2 hg1 hg2 hb1 hb2 hb3 hb4 hb5 bl e0 e3 e4 e5 f0 f3 f4 f5 hv hv2 hvW hv2W hEW hE hRU hRO hU hO;go_enter Tryz.func115,Tryz.ntmps115
 go_upto_region 1 with fail
 rw[<-HW.out]
 go_cut [5] (fun s wx=>∃tp:ByteArray,s=.string tp/\Hid (tp.data.toList=Lz.originU own)/\Below W.heap.size W wx)
 case first=>
  obtain⟨⟨x0,x1,x2,x3,x4,x5,x6,x7,x8,x9,x10,x11⟩,y0,y1,y2,y3,y4,y5,y6,y7,y8,y9,y10,y11⟩:=hC.out _ hB0
  go_wp2_with fail
  refine(cO2.out _ hB0).mono ?_;rintro e w5 ⟨tp,rfl,htp,hK5⟩
  go_wp2_with fail
  go_meet;exact⟨tp,rfl,htp,hK5⟩
 case rest=>
 obtain⟨tp,rfl,htp,hKc⟩:=hcut
 go_upto_region 2 with fail
 go_cut [17] (fun s wx=>s=.bool q/\Below W.heap.size W wx)
 case first=>
  obtain⟨⟨x0,x1,x2,x3,x4,x5,x6,x7,x8,x9,x10,x11⟩,y0,y1,y2,y3,y4,y5,y6,y7,y8,y9,y10,y11⟩:=hC.out _ hKc;by_cases hn:tp.data.toList=[110,117,108,108]
  ·have t1:=text_yes hn;have HQ:Hid (q=false):=by show _=_;rw[Hq.out,<-htp.out,hn];rfl
   clear hn
   go_wp2_with fail
   go_meet;exact⟨by rw[HQ.out],hKc⟩
  ·have t1:=text_no hn
   have HN:Hid ((tp.data.toList != Lz.nullS)=true):=by
    show(!(tp.data.toList==[110,117,108,108]))=true;rw[beq_eq_false_iff_ne.2 hn];rfl
   clear hn
   go_wp2_with fail
   refine(cO1.out _ hKc).mono ?_;rintro e w5 ⟨tq,rfl,htq,hK5⟩;have hsm:=same_text tp tq
   have HQ:Hid (q=(tp.toList==tq.toList)):=by
    show _=_;rw[Hq.out,<-htp.out,HN.out,<-htq.out,Bool.true_and,Lib.toList_data,Lib.toList_data]
   clear hsm
   go_wp2_with fail
   go_meet;exact⟨by rw[HQ.out],hK5⟩
 case rest=>
 obtain⟨rfl,hKd⟩:=hcut;clear hKc htp;cases q with
 | true=>
   have HV:Hid (R=true):=by show _=_;rw[HR.out];rfl
   go_wp2_with fail
   go_ret;exact⟨by rw[HV.out];rfl,hbW.trans (hKd.mono hbW.size)⟩
 | false=>
 have HV:Hid (R=(hh1&&(hh2&&(b5&&(al&&sf))))):=by show _=_;rw[HR.out,Bool.false_or]
 clear HR Hq;have hBd:Below W.heap.size W wc.drew:=hKd.drew
 go_upto_region 4 with fail
 go_cut [6] (fun s wx=>s=.bool al/\Below W.heap.size W wx)
 case first=>
  clear HV;cases h1:(pr1==pr2)with
  | true=>
    have HV:Hid (al=true):=by show _=_;rw[HA.out,h1];rfl
    clear HA
    refine wp_region_held_drew (S:=fun V=>((V.cell? ⟨w.heap.size,0,none⟩=some (.string sc1)/\V.cell? ⟨w.heap.size,1,none⟩=some (.string us1)/\V.cell? ⟨w.heap.size,2,none⟩=some (.string pa1)/\V.cell? ⟨w.heap.size,3,none⟩=some (.bool hh1)/\V.cell? ⟨w.heap.size,4,none⟩=some (.string hs1)/\V.cell? ⟨w.heap.size,5,none⟩=some (.int .i64 pr1)/\V.cell? ⟨w.heap.size,6,none⟩=some (.bool op1)/\V.cell? ⟨w.heap.size,7,none⟩=some (.slice a1 n1 c1)/\V.cell? ⟨w.heap.size,8,none⟩=some (.bool hq1)/\V.cell? ⟨w.heap.size,9,none⟩=some (.bool hf1)/\V.cell? ⟨w.heap.size,10,none⟩=some (.string qr1)/\V.cell? ⟨w.heap.size,11,none⟩=some (.string fr1))/\(V.cell? ⟨w.heap.size+1,0,none⟩=some (.string sc2)/\V.cell? ⟨w.heap.size+1,1,none⟩=some (.string us2)/\V.cell? ⟨w.heap.size+1,2,none⟩=some (.string pa2)/\V.cell? ⟨w.heap.size+1,3,none⟩=some (.bool hh2)/\V.cell? ⟨w.heap.size+1,4,none⟩=some (.string hs2)/\V.cell? ⟨w.heap.size+1,5,none⟩=some (.int .i64 pr2)/\V.cell? ⟨w.heap.size+1,6,none⟩=some (.bool op2)/\V.cell? ⟨w.heap.size+1,7,none⟩=some (.slice a2 n2 c2)/\V.cell? ⟨w.heap.size+1,8,none⟩=some (.bool hq2)/\V.cell? ⟨w.heap.size+1,9,none⟩=some (.bool hf2)/\V.cell? ⟨w.heap.size+1,10,none⟩=some (.string qr2)/\V.cell? ⟨w.heap.size+1,11,none⟩=some (.string fr2)))/\Below W.heap.size W V) (by kernel_rfl) ⟨hC.out _ hBd,hBd⟩ (fun hHeld=>?_)
    generalize wc.drew=W0 at hHeld⊢;refine TkD 0 (some 18) (v:=?_) rfl rfl ?_ ?_;rotate_left
    ·(intro W hSw;(try dsimp only at hSw);go_simp;try with_reducible rfl)
    (try simp only[Act.put,List.setIfInBounds_toArray,List.set_cons_zero,List.set_cons_succ])
    refine TkD 1 (some 19) (v:=?_) rfl rfl ?_ ?_;rotate_left
    ·(intro W hSw;(try dsimp only at hSw);go_simp;try with_reducible rfl)
    (try simp only[Act.put,List.setIfInBounds_toArray,List.set_cons_zero,List.set_cons_succ])
    refine TkD 2 (some 20) (v:=?_) rfl rfl ?_ ?_;rotate_left
    ·(intro W hSw;(try dsimp only at hSw);go_simp;try with_reducible rfl)
    (try simp only[Act.put,List.setIfInBounds_toArray,List.set_cons_zero,List.set_cons_succ])
    refine TkD 3 (some 21) (v:=?_) rfl rfl ?_ ?_;rotate_left
    ·(intro W hSw;(try dsimp only at hSw);go_simp;try with_reducible rfl)
    (try simp only[Act.put,List.setIfInBounds_toArray,List.set_cons_zero,List.set_cons_succ])
    refine TkD 4 (some 22) (v:=?_) rfl rfl ?_ ?_;rotate_left
    ·(intro W hSw;(try dsimp only at hSw);go_simp;try with_reducible rfl)
    (try simp only[Act.put,List.setIfInBounds_toArray,List.set_cons_zero,List.set_cons_succ])
    refine TkD 5 (some 23) (v:=?_) rfl rfl ?_ ?_;rotate_left
    ·(intro W hSw;(try dsimp only at hSw);go_simp;try with_reducible rfl)
    (try simp only[Act.put,List.setIfInBounds_toArray,List.set_cons_zero,List.set_cons_succ])
    refine TnD 6 (some 24) rfl rfl ?_
    (try simp only[Act.put,List.setIfInBounds_toArray,List.set_cons_zero,List.set_cons_succ])
    refine TnD 7 (some 25) rfl rfl ?_
    (try simp only[Act.put,List.setIfInBounds_toArray,List.set_cons_zero,List.set_cons_succ])
    refine TnD 8 (some 26) rfl rfl ?_
    (try simp only[Act.put,List.setIfInBounds_toArray,List.set_cons_zero,List.set_cons_succ])
    refine TnD 9 (some 27) rfl rfl ?_
    (try simp only[Act.put,List.setIfInBounds_toArray,List.set_cons_zero,List.set_cons_succ])
    refine TnD 10 (some 28) rfl rfl ?_
    (try simp only[Act.put,List.setIfInBounds_toArray,List.set_cons_zero,List.set_cons_succ])
    refine TnD 11 (some 29) rfl rfl ?_
    (try simp only[Act.put,List.setIfInBounds_toArray,List.set_cons_zero,List.set_cons_succ])
    refine TnD 12 (some 30) rfl rfl ?_
    (try simp only[Act.put,List.setIfInBounds_toArray,List.set_cons_zero,List.set_cons_succ])
    refine TnD 13 (some 31) rfl rfl ?_
    (try simp only[Act.put,List.setIfInBounds_toArray,List.set_cons_zero,List.set_cons_succ])
    refine TnD 14 (some 32) rfl rfl ?_
    (try simp only[Act.put,List.setIfInBounds_toArray,List.set_cons_zero,List.set_cons_succ])
    refine TnD 15 (some 33) rfl rfl ?_
    (try simp only[Act.put,List.setIfInBounds_toArray,List.set_cons_zero,List.set_cons_succ])
    refine TnD 16 (some 34) rfl rfl ?_
    (try simp only[Act.put,List.setIfInBounds_toArray,List.set_cons_zero,List.set_cons_succ])
    refine TnD 17 (some 35) rfl rfl ?_
    (try simp only[Act.put,List.setIfInBounds_toArray,List.set_cons_zero,List.set_cons_succ])
    refine TnD 18 (some 36) rfl rfl ?_
    (try simp only[Act.put,List.setIfInBounds_toArray,List.set_cons_zero,List.set_cons_succ])
    refine TnD 19 (some 37) rfl rfl ?_
    (try simp only[Act.put,List.setIfInBounds_toArray,List.set_cons_zero,List.set_cons_succ])
    refine TkD 20 (some 38) (v:=?_) rfl rfl ?_ ?_;rotate_left
    ·(intro W hSw;(try dsimp only at hSw);go_simp;try with_reducible rfl)
    (try simp only[Act.put,List.setIfInBounds_toArray,List.set_cons_zero,List.set_cons_succ])
    refine TkD 21 (some 6) (v:=?_) rfl rfl ?_ ?_;rotate_left
    ·(intro W hSw;(try dsimp only at hSw);go_simp;try with_reducible rfl)
    (try simp only[Act.put,List.setIfInBounds_toArray,List.set_cons_zero,List.set_cons_succ])
    refine wpAnyH_done (by kernel_rfl) ?_ _
    go_wp2_with fail
    go_meet;exact⟨by rw[HV.out],hHeld.2⟩
  | false=>
    cases h2:(g1==d1)with
    | false=>
      have HV:Hid (al=false):=by show _=_;rw[HA.out,h1,h2];rfl
      clear HA
      refine wp_region_held_drew (S:=fun V=>((V.cell? ⟨w.heap.size,0,none⟩=some (.string sc1)/\V.cell? ⟨w.heap.size,1,none⟩=some (.string us1)/\V.cell? ⟨w.heap.size,2,none⟩=some (.string pa1)/\V.cell? ⟨w.heap.size,3,none⟩=some (.bool hh1)/\V.cell? ⟨w.heap.size,4,none⟩=some (.string hs1)/\V.cell? ⟨w.heap.size,5,none⟩=some (.int .i64 pr1)/\V.cell? ⟨w.heap.size,6,none⟩=some (.bool op1)/\V.cell? ⟨w.heap.size,7,none⟩=some (.slice a1 n1 c1)/\V.cell? ⟨w.heap.size,8,none⟩=some (.bool hq1)/\V.cell? ⟨w.heap.size,9,none⟩=some (.bool hf1)/\V.cell? ⟨w.heap.size,10,none⟩=some (.string qr1)/\V.cell? ⟨w.heap.size,11,none⟩=some (.string fr1))/\(V.cell? ⟨w.heap.size+1,0,none⟩=some (.string sc2)/\V.cell? ⟨w.heap.size+1,1,none⟩=some (.string us2)/\V.cell? ⟨w.heap.size+1,2,none⟩=some (.string pa2)/\V.cell? ⟨w.heap.size+1,3,none⟩=some (.bool hh2)/\V.cell? ⟨w.heap.size+1,4,none⟩=some (.string hs2)/\V.cell? ⟨w.heap.size+1,5,none⟩=some (.int .i64 pr2)/\V.cell? ⟨w.heap.size+1,6,none⟩=some (.bool op2)/\V.cell? ⟨w.heap.size+1,7,none⟩=some (.slice a2 n2 c2)/\V.cell? ⟨w.heap.size+1,8,none⟩=some (.bool hq2)/\V.cell? ⟨w.heap.size+1,9,none⟩=some (.bool hf2)/\V.cell? ⟨w.heap.size+1,10,none⟩=some (.string qr2)/\V.cell? ⟨w.heap.size+1,11,none⟩=some (.string fr2)))/\Below W.heap.size W V) (by kernel_rfl) ⟨hC.out _ hBd,hBd⟩ (fun hHeld=>?_)
      generalize wc.drew=W0 at hHeld⊢;refine TkD 0 (some 18) (v:=?_) rfl rfl ?_ ?_;rotate_left
      ·(intro W hSw;(try dsimp only at hSw);go_simp;try with_reducible rfl)
      (try simp only[Act.put,List.setIfInBounds_toArray,List.set_cons_zero,List.set_cons_succ])
      refine TkD 1 (some 19) (v:=?_) rfl rfl ?_ ?_;rotate_left
      ·(intro W hSw;(try dsimp only at hSw);go_simp;try with_reducible rfl)
      (try simp only[Act.put,List.setIfInBounds_toArray,List.set_cons_zero,List.set_cons_succ])
      refine TkD 2 (some 20) (v:=?_) rfl rfl ?_ ?_;rotate_left
      ·(intro W hSw;(try dsimp only at hSw);go_simp;try with_reducible rfl)
      (try simp only[Act.put,List.setIfInBounds_toArray,List.set_cons_zero,List.set_cons_succ])
      refine TkD 3 (some 21) (v:=?_) rfl rfl ?_ ?_;rotate_left
      ·(intro W hSw;(try dsimp only at hSw);go_simp;try with_reducible rfl)
      (try simp only[Act.put,List.setIfInBounds_toArray,List.set_cons_zero,List.set_cons_succ])
      refine TkD 4 (some 22) (v:=?_) rfl rfl ?_ ?_;rotate_left
      ·(intro W hSw;(try dsimp only at hSw);go_simp;try with_reducible rfl)
      (try simp only[Act.put,List.setIfInBounds_toArray,List.set_cons_zero,List.set_cons_succ])
      refine TkD 5 (some 23) (v:=?_) rfl rfl ?_ ?_;rotate_left
      ·(intro W hSw;(try dsimp only at hSw);go_simp;try with_reducible rfl)
      (try simp only[Act.put,List.setIfInBounds_toArray,List.set_cons_zero,List.set_cons_succ])
      refine TkD 6 (some 24) (v:=?_) rfl rfl ?_ ?_;rotate_left
      ·(intro W hSw;(try dsimp only at hSw);go_simp;try with_reducible rfl)
      (try simp only[Act.put,List.setIfInBounds_toArray,List.set_cons_zero,List.set_cons_succ])
      refine TkD 8 (some 26) (v:=?_) rfl rfl ?_ ?_;rotate_left
      ·(intro W hSw;(try dsimp only at hSw);go_simp;try with_reducible rfl)
      (try simp only[Act.put,List.setIfInBounds_toArray,List.set_cons_zero,List.set_cons_succ])
      refine TkD 9 (some 27) (v:=?_) rfl rfl ?_ ?_;rotate_left
      ·(intro W hSw;(try dsimp only at hSw);go_simp;try with_reducible rfl)
      (try simp only[Act.put,List.setIfInBounds_toArray,List.set_cons_zero,List.set_cons_succ])
      refine wpAnyH_ready (rs:=[7]) (by kernel_rfl) (by simp) ?_;refine AllReadyH.cons rfl (fun K hK=>?_) AllReadyH.nil;go_simp
      go_at_call 174
      refine(cE1.out _ (hHeld.2)).mono ?_;rintro e w5 ⟨rfl,hK5⟩;clear hHeld;refine hK.out _ _ ⟨hC.out _ hK5,hK5⟩ (fun hHeld=>?_);clear hK K
      (try simp only[Act.put,List.setIfInBounds_toArray,List.set_cons_zero,List.set_cons_succ])
      refine wpAnyH_ready (rs:=[10]) (by kernel_rfl) (by simp) ?_;refine AllReadyH.cons rfl (fun K hK=>?_) AllReadyH.nil;go_simp
      go_at_call 175
      refine(cD1.out _ (hHeld.2)).mono ?_;rintro e w5 ⟨rfl,hK5⟩;clear hHeld;refine hK.out _ _ ⟨hC.out _ hK5,hK5⟩ (fun hHeld=>?_);clear hK K
      (try simp only[Act.put,List.setIfInBounds_toArray,List.set_cons_zero,List.set_cons_succ])
      refine TkD 11 (some 29) (v:=?_) rfl rfl ?_ ?_;rotate_left
      ·(intro W hSw;(try dsimp only at hSw);go_simp;try with_reducible rfl)
      (try simp only[Act.put,List.setIfInBounds_toArray,List.set_cons_zero,List.set_cons_succ])
      refine TkD 12 (some 30) (v:=?_) rfl rfl ?_ ?_;rotate_left
      ·(intro W hSw;(try dsimp only at hSw);go_simp;try with_reducible rfl)
      (try simp only[Act.put,List.setIfInBounds_toArray,List.set_cons_zero,List.set_cons_succ])
      refine TnD 13 (some 31) rfl rfl ?_
      (try simp only[Act.put,List.setIfInBounds_toArray,List.set_cons_zero,List.set_cons_succ])
      refine TnD 14 (some 32) rfl rfl ?_
      (try simp only[Act.put,List.setIfInBounds_toArray,List.set_cons_zero,List.set_cons_succ])
      refine TnD 15 (some 33) rfl rfl ?_
      (try simp only[Act.put,List.setIfInBounds_toArray,List.set_cons_zero,List.set_cons_succ])
      refine TnD 16 (some 34) rfl rfl ?_
      (try simp only[Act.put,List.setIfInBounds_toArray,List.set_cons_zero,List.set_cons_succ])
      refine TnD 17 (some 35) rfl rfl ?_
      (try simp only[Act.put,List.setIfInBounds_toArray,List.set_cons_zero,List.set_cons_succ])
      refine TnD 18 (some 36) rfl rfl ?_
      (try simp only[Act.put,List.setIfInBounds_toArray,List.set_cons_zero,List.set_cons_succ])
      refine TkD 19 (some 37) (v:=?_) rfl rfl ?_ ?_;rotate_left
      ·(intro W hSw;(try dsimp only at hSw);go_simp;try with_reducible rfl)
      (try simp only[Act.put,List.setIfInBounds_toArray,List.set_cons_zero,List.set_cons_succ])
      refine TkD 20 (some 38) (v:=?_) rfl rfl ?_ ?_;rotate_left
      ·(intro W hSw;(try dsimp only at hSw);go_simp;try with_reducible rfl)
      (try simp only[Act.put,List.setIfInBounds_toArray,List.set_cons_zero,List.set_cons_succ])
      refine TkD 21 (some 6) (v:=?_) rfl rfl ?_ ?_;rotate_left
      ·(intro W hSw;(try dsimp only at hSw);go_simp;try with_reducible rfl)
      (try simp only[Act.put,List.setIfInBounds_toArray,List.set_cons_zero,List.set_cons_succ])
      refine wpAnyH_done (by kernel_rfl) ?_ _
      go_wp2_with fail
      go_meet;exact⟨by rw[HV.out],hHeld.2⟩
    | true=>
      have HV:Hid (al=(g2==d2)):=by show _=_;rw[HA.out,h1,h2];rfl
      clear HA
      refine wp_region_held_drew (S:=fun V=>((V.cell? ⟨w.heap.size,0,none⟩=some (.string sc1)/\V.cell? ⟨w.heap.size,1,none⟩=some (.string us1)/\V.cell? ⟨w.heap.size,2,none⟩=some (.string pa1)/\V.cell? ⟨w.heap.size,3,none⟩=some (.bool hh1)/\V.cell? ⟨w.heap.size,4,none⟩=some (.string hs1)/\V.cell? ⟨w.heap.size,5,none⟩=some (.int .i64 pr1)/\V.cell? ⟨w.heap.size,6,none⟩=some (.bool op1)/\V.cell? ⟨w.heap.size,7,none⟩=some (.slice a1 n1 c1)/\V.cell? ⟨w.heap.size,8,none⟩=some (.bool hq1)/\V.cell? ⟨w.heap.size,9,none⟩=some (.bool hf1)/\V.cell? ⟨w.heap.size,10,none⟩=some (.string qr1)/\V.cell? ⟨w.heap.size,11,none⟩=some (.string fr1))/\(V.cell? ⟨w.heap.size+1,0,none⟩=some (.string sc2)/\V.cell? ⟨w.heap.size+1,1,none⟩=some (.string us2)/\V.cell? ⟨w.heap.size+1,2,none⟩=some (.string pa2)/\V.cell? ⟨w.heap.size+1,3,none⟩=some (.bool hh2)/\V.cell? ⟨w.heap.size+1,4,none⟩=some (.string hs2)/\V.cell? ⟨w.heap.size+1,5,none⟩=some (.int .i64 pr2)/\V.cell? ⟨w.heap.size+1,6,none⟩=some (.bool op2)/\V.cell? ⟨w.heap.size+1,7,none⟩=some (.slice a2 n2 c2)/\V.cell? ⟨w.heap.size+1,8,none⟩=some (.bool hq2)/\V.cell? ⟨w.heap.size+1,9,none⟩=some (.bool hf2)/\V.cell? ⟨w.heap.size+1,10,none⟩=some (.string qr2)/\V.cell? ⟨w.heap.size+1,11,none⟩=some (.string fr2)))/\Below W.heap.size W V) (by kernel_rfl) ⟨hC.out _ hBd,hBd⟩ (fun hHeld=>?_)
      generalize wc.drew=W0 at hHeld⊢;refine TkD 0 (some 18) (v:=?_) rfl rfl ?_ ?_;rotate_left
      ·(intro W hSw;(try dsimp only at hSw);go_simp;try with_reducible rfl)
      (try simp only[Act.put,List.setIfInBounds_toArray,List.set_cons_zero,List.set_cons_succ])
      refine TkD 1 (some 19) (v:=?_) rfl rfl ?_ ?_;rotate_left
      ·(intro W hSw;(try dsimp only at hSw);go_simp;try with_reducible rfl)
      (try simp only[Act.put,List.setIfInBounds_toArray,List.set_cons_zero,List.set_cons_succ])
      refine TkD 2 (some 20) (v:=?_) rfl rfl ?_ ?_;rotate_left
      ·(intro W hSw;(try dsimp only at hSw);go_simp;try with_reducible rfl)
      (try simp only[Act.put,List.setIfInBounds_toArray,List.set_cons_zero,List.set_cons_succ])
      refine TkD 3 (some 21) (v:=?_) rfl rfl ?_ ?_;rotate_left
      ·(intro W hSw;(try dsimp only at hSw);go_simp;try with_reducible rfl)
      (try simp only[Act.put,List.setIfInBounds_toArray,List.set_cons_zero,List.set_cons_succ])
      refine TkD 4 (some 22) (v:=?_) rfl rfl ?_ ?_;rotate_left
      ·(intro W hSw;(try dsimp only at hSw);go_simp;try with_reducible rfl)
      (try simp only[Act.put,List.setIfInBounds_toArray,List.set_cons_zero,List.set_cons_succ])
      refine TkD 5 (some 23) (v:=?_) rfl rfl ?_ ?_;rotate_left
      ·(intro W hSw;(try dsimp only at hSw);go_simp;try with_reducible rfl)
      (try simp only[Act.put,List.setIfInBounds_toArray,List.set_cons_zero,List.set_cons_succ])
      refine TkD 6 (some 24) (v:=?_) rfl rfl ?_ ?_;rotate_left
      ·(intro W hSw;(try dsimp only at hSw);go_simp;try with_reducible rfl)
      (try simp only[Act.put,List.setIfInBounds_toArray,List.set_cons_zero,List.set_cons_succ])
      refine TkD 8 (some 26) (v:=?_) rfl rfl ?_ ?_;rotate_left
      ·(intro W hSw;(try dsimp only at hSw);go_simp;try with_reducible rfl)
      (try simp only[Act.put,List.setIfInBounds_toArray,List.set_cons_zero,List.set_cons_succ])
      refine TkD 9 (some 27) (v:=?_) rfl rfl ?_ ?_;rotate_left
      ·(intro W hSw;(try dsimp only at hSw);go_simp;try with_reducible rfl)
      (try simp only[Act.put,List.setIfInBounds_toArray,List.set_cons_zero,List.set_cons_succ])
      refine wpAnyH_ready (rs:=[7]) (by kernel_rfl) (by simp) ?_;refine AllReadyH.cons rfl (fun K hK=>?_) AllReadyH.nil;go_simp
      go_at_call 174
      refine(cE1.out _ (hHeld.2)).mono ?_;rintro e w5 ⟨rfl,hK5⟩;clear hHeld;refine hK.out _ _ ⟨hC.out _ hK5,hK5⟩ (fun hHeld=>?_);clear hK K
      (try simp only[Act.put,List.setIfInBounds_toArray,List.set_cons_zero,List.set_cons_succ])
      refine wpAnyH_ready (rs:=[10]) (by kernel_rfl) (by simp) ?_;refine AllReadyH.cons rfl (fun K hK=>?_) AllReadyH.nil;go_simp
      go_at_call 175
      refine(cD1.out _ (hHeld.2)).mono ?_;rintro e w5 ⟨rfl,hK5⟩;clear hHeld;refine hK.out _ _ ⟨hC.out _ hK5,hK5⟩ (fun hHeld=>?_);clear hK K
      (try simp only[Act.put,List.setIfInBounds_toArray,List.set_cons_zero,List.set_cons_succ])
      refine TkD 11 (some 29) (v:=?_) rfl rfl ?_ ?_;rotate_left
      ·(intro W hSw;(try dsimp only at hSw);go_simp;try with_reducible rfl)
      (try simp only[Act.put,List.setIfInBounds_toArray,List.set_cons_zero,List.set_cons_succ])
      refine TkD 12 (some 30) (v:=?_) rfl rfl ?_ ?_;rotate_left
      ·(intro W hSw;(try dsimp only at hSw);go_simp;try with_reducible rfl)
      (try simp only[Act.put,List.setIfInBounds_toArray,List.set_cons_zero,List.set_cons_succ])
      refine TkD 13 (some 31) (v:=?_) rfl rfl ?_ ?_;rotate_left
      ·(intro W hSw;(try dsimp only at hSw);go_simp;try with_reducible rfl)
      (try simp only[Act.put,List.setIfInBounds_toArray,List.set_cons_zero,List.set_cons_succ])
      refine TkD 15 (some 33) (v:=?_) rfl rfl ?_ ?_;rotate_left
      ·(intro W hSw;(try dsimp only at hSw);go_simp;try with_reducible rfl)
      (try simp only[Act.put,List.setIfInBounds_toArray,List.set_cons_zero,List.set_cons_succ])
      refine TkD 16 (some 34) (v:=?_) rfl rfl ?_ ?_;rotate_left
      ·(intro W hSw;(try dsimp only at hSw);go_simp;try with_reducible rfl)
      (try simp only[Act.put,List.setIfInBounds_toArray,List.set_cons_zero,List.set_cons_succ])
      refine wpAnyH_ready (rs:=[14]) (by kernel_rfl) (by simp) ?_;refine AllReadyH.cons rfl (fun K hK=>?_) AllReadyH.nil;go_simp
      go_at_call 174
      refine(cE2.out _ (hHeld.2)).mono ?_;rintro e w5 ⟨rfl,hK5⟩;clear hHeld;refine hK.out _ _ ⟨hC.out _ hK5,hK5⟩ (fun hHeld=>?_);clear hK K
      (try simp only[Act.put,List.setIfInBounds_toArray,List.set_cons_zero,List.set_cons_succ])
      refine wpAnyH_ready (rs:=[17]) (by kernel_rfl) (by simp) ?_;refine AllReadyH.cons rfl (fun K hK=>?_) AllReadyH.nil;go_simp
      go_at_call 175
      refine(cD2.out _ (hHeld.2)).mono ?_;rintro e w5 ⟨rfl,hK5⟩;clear hHeld;refine hK.out _ _ ⟨hC.out _ hK5,hK5⟩ (fun hHeld=>?_);clear hK K
      (try simp only[Act.put,List.setIfInBounds_toArray,List.set_cons_zero,List.set_cons_succ])
      refine TkD 18 (some 36) (v:=?_) rfl rfl ?_ ?_;rotate_left
      ·(intro W hSw;(try dsimp only at hSw);go_simp;try with_reducible rfl)
      (try simp only[Act.put,List.setIfInBounds_toArray,List.set_cons_zero,List.set_cons_succ])
      refine TkD 19 (some 37) (v:=?_) rfl rfl ?_ ?_;rotate_left
      ·(intro W hSw;(try dsimp only at hSw);go_simp;try with_reducible rfl)
      (try simp only[Act.put,List.setIfInBounds_toArray,List.set_cons_zero,List.set_cons_succ])
      refine TkD 20 (some 38) (v:=?_) rfl rfl ?_ ?_;rotate_left
      ·(intro W hSw;(try dsimp only at hSw);go_simp;try with_reducible rfl)
      (try simp only[Act.put,List.setIfInBounds_toArray,List.set_cons_zero,List.set_cons_succ])
      refine TkD 21 (some 6) (v:=?_) rfl rfl ?_ ?_;rotate_left
      ·(intro W hSw;(try dsimp only at hSw);go_simp;try with_reducible rfl)
      (try simp only[Act.put,List.setIfInBounds_toArray,List.set_cons_zero,List.set_cons_succ])
      refine wpAnyH_done (by kernel_rfl) ?_ _
      go_wp2_with fail
      go_meet;exact⟨by rw[HV.out],hHeld.2⟩
 case rest=>
 obtain⟨rfl,hKe⟩:=hcut;clear hKd hBd HA
 go_upto_region 5 with fail
 go_cut [7] (fun s wx=>s=.bool sf/\Below W.heap.size W wx)
 case first=>
  obtain⟨⟨x0,x1,x2,x3,x4,x5,x6,x7,x8,x9,x10,x11⟩,y0,y1,y2,y3,y4,y5,y6,y7,y8,y9,y10,y11⟩:=hC.out _ hKe;obtain⟨m1,m2,m3,m4,m5⟩:=HB.out;clear HV HB m5;cases b1 with
  | true=>
    have HV:Hid (sf=true):=by show _=_;rw[HS.out];rfl
    go_wp2_with fail
    go_meet;exact⟨by rw[HV.out],hKe⟩
  | false=>
  cases b2 with
  | true=>
    have HV:Hid (sf=true):=by show _=_;rw[HS.out];rfl
    go_wp2_with fail
    go_meet;exact⟨by rw[HV.out],hKe⟩
  | false=>
  cases b3 with
  | false=>
    have HV:Hid (sf=false):=by show _=_;rw[HS.out];rfl
    go_wp2_with fail
    go_meet;exact⟨by rw[HV.out],hKe⟩
  | true=>
    have HV:Hid (sf=b4):=by show _=_;rw[HS.out];rfl
    go_wp2_with fail
    go_meet;exact⟨by rw[HV.out],hKe⟩
 case rest=>
 obtain⟨rfl,hKf⟩:=hcut;clear hKe HS;obtain⟨⟨x0,x1,x2,x3,x4,x5,x6,x7,x8,x9,x10,x11⟩,y0,y1,y2,y3,y4,y5,y6,y7,y8,y9,y10,y11⟩:=hC.out _ hKf;obtain⟨m1,m2,m3,m4,m5⟩:=HB.out;clear HB hC m1 m2 m3 m4;cases hh1 with
 | false=>
   go_wp2_with fail
   go_ret;exact⟨by rw[HV.out];rfl,hbW.trans (hKf.mono hbW.size)⟩
 | true=>
 cases hh2 with
 | false=>
   go_wp2_with fail
   go_ret;exact⟨by rw[HV.out];rfl,hbW.trans (hKf.mono hbW.size)⟩
 | true=>
 cases b5 with
 | false=>
   go_wp2_with fail
   go_ret;exact⟨by rw[HV.out];rfl,hbW.trans (hKf.mono hbW.size)⟩
 | true=>
 cases al with
 | false=>
   go_wp2_with fail
   go_ret;exact⟨by rw[HV.out];rfl,hbW.trans (hKf.mono hbW.size)⟩
 | true=>
   go_wp2_with fail
   go_ret;exact⟨by rw[HV.out];rfl,hbW.trans (hKf.mono hbW.size)⟩
end Go.Proofs.YtjhccadmmnjpeaaGreatDoor
