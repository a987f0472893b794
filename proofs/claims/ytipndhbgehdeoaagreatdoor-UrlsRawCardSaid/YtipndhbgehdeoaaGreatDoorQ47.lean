/-
  lazaretlaw08: what the two packages tell of one URL.
-/
import Derived.Test.YtipndhbgehdeoaaGreatDoorQ46
set_option maxHeartbeats 4000000
set_option maxRecDepth 100000
namespace Go.Proofs.YtipndhbgehdeoaaGreatDoor
open Go.RowKit
theorem def_ge (s:List UInt8): -1<=Lz.defP s:=by
 unfold Lz.defP
 repeat' split
 all_goals decide
theorem Origin08_def (v:Value) (u:Lz.UrlL) (w:World) (hv:UrlVal w v u) (hE:EnvU w) (hO:OrigOk u) (hd:Lz.defP u.scheme≠ -1):Calls Tryz.prog 12 #[v] w (RStr (u.scheme++[58,47,47]++Lz.atU u) w):=by
 obtain⟨goal,hg⟩:∃goal,goal=u.scheme++[58,47,47]++Lz.atU u:=⟨_,rfl⟩;rw[<-hg];have HG:=Ih hg;obtain⟨sch,usr,pas,hh,hst,prt,opq,a,c,xs,hq,hf,qry,frg,rfl,hu,hx⟩:=hv.form;obtain⟨C,hC⟩:∃C:Array Value,C= #[.string sch,.string usr,.string pas,.bool hh,.string hst,.int .i64 prt,.bool opq,.slice a xs.length c,.bool hq,.bool hf,.string qry,.string frg]:=⟨_,rfl⟩;have hss:u.scheme=sch.data.toList:=by rw[hu]
 have hs1:sch.size<=1000000000:=by rw[<-len_of_size,<-hss];exact hO.scheme
 obtain⟨W,hW⟩:∃W,W=w.alloc (.cells #[.string sch,.string usr,.string pas,.bool hh,.string hst,.int .i64 prt,.bool opq,.slice a xs.length c,.bool hq,.bool hf,.string qry,.string frg] 25):=⟨_,rfl⟩;have hbW:Below w.heap.size w W:=by rw[hW];exact(Below.refl _ w).alloc (Nat.le_refl _) _
 have hR:W.heap[w.heap.size]? =some (.cells #[.string sch,.string usr,.string pas,.bool hh,.string hst,.int .i64 prt,.bool opq,.slice a xs.length c,.bool hq,.bool hf,.string qry,.string frg] 25 (0,0)):=by rw[hW];exact heap_new _ _
 have hP:PO w.heap.size #[.string sch,.string usr,.string pas,.bool hh,.string hst,.int .i64 prt,.bool opq,.slice a xs.length c,.bool hq,.bool hf,.string qry,.string frg] u w W:=⟨hR,hbW,hE.below hbW,hv.below hbW⟩;have hPd:=hP.drew
 have cA:Hid (∀V,PO w.heap.size #[.string sch,.string usr,.string pas,.bool hh,.string hst,.int .i64 prt,.bool opq,.slice a xs.length c,.bool hq,.bool hf,.string qry,.string frg] u w V->Calls Tryz.prog 25 #[.agg #[.string sch,.string usr,.string pas,.bool hh,.string hst,.int .i64 prt,.bool opq,.slice a xs.length c,.bool hq,.bool hf,.string qry,.string frg]] V fun e w'=>∃t:ByteArray,e=.returned (.string t)/\Hid (t.data.toList=Lz.atU u)/\t.size<=1000000100/\PO w.heap.size #[.string sch,.string usr,.string pas,.bool hh,.string hst,.int .i64 prt,.bool opq,.slice a xs.length c,.bool hq,.bool hf,.string qry,.string frg] u w w'):=Ih (by
  intro V hV;refine(at08_any _ u V hV.val hV.env.h hO.p0 hO.p1 hO.host).mono ?_;rintro e w' ⟨t,he,ht,hb'⟩;refine⟨t,he,ht,?_,hV.call hb'⟩;rw[<-len_of_size,ht.out];unfold Lz.atU;split
  ·have:=hO.host;omega
  ·have h1:=itoa_len2 hO.p0 hO.p1;have h2:=hO.host;simp only[List.length_append,List.length_singleton];omega)
 have c0:=rowAt hR 0 (.string sch) rfl;obtain⟨d,hdd⟩:∃d,d=Lz.defP sch.data.toList:=⟨_,rfl⟩
 have hd0:(0:Int)<=d:=by
  have:=def_ge sch.data.toList;rw[<-hdd]at this;have h2:d≠ -1:=by rw[hdd,<-hss];exact hd
  omega
 have cD:Hid (Calls Tryz.prog 26 #[.string sch] W fun e w'=>e=.returned (.int .i64 d)/\W=w'):=Ih (by rw[hdd];exact Default08_any sch W);have n1:¬(9223372036854775807<sch.size+3):=by omega
 have HG2:Hid (goal=sch.data.toList++[58,47,47]++Lz.atU u):=Ih (by rw[HG.out,hss]);have HW:=Ih hW;have HP:=Ih hP;clear hC hW hR hv hx hg hE hu hss hO hd hdd HG hP;go_enter Tryz.func12,Tryz.ntmps12
 go_wp2_with (rw[<-HW.out])
 refine cD.out.mono ?_;rintro e w1 ⟨rfl,rfl⟩
 go_upto_region 2 with fail
 go_cut [2] (fun s wx=>∃t:ByteArray,s=.string t/\Hid (t.data.toList=goal)/\Below w.heap.size w wx)
 case first=>
  have hPw:=HP.out
  go_region_held3 (fun V=>(V.cell? ⟨w.heap.size,0,none⟩=some (.string sch)/\V.cell? ⟨w.heap.size,1,none⟩=some (.string usr)/\V.cell? ⟨w.heap.size,2,none⟩=some (.string pas)/\V.cell? ⟨w.heap.size,3,none⟩=some (.bool hh)/\V.cell? ⟨w.heap.size,4,none⟩=some (.string hst)/\V.cell? ⟨w.heap.size,5,none⟩=some (.int .i64 prt)/\V.cell? ⟨w.heap.size,6,none⟩=some (.bool opq)/\V.cell? ⟨w.heap.size,7,none⟩=some (.slice a xs.length c)/\V.cell? ⟨w.heap.size,8,none⟩=some (.bool hq)/\V.cell? ⟨w.heap.size,9,none⟩=some (.bool hf)/\V.cell? ⟨w.heap.size,10,none⟩=some (.string qry)/\V.cell? ⟨w.heap.size,11,none⟩=some (.string frg))/\PO w.heap.size #[.string sch,.string usr,.string pas,.bool hh,.string hst,.int .i64 prt,.bool opq,.slice a xs.length c,.bool hq,.bool hf,.string qry,.string frg] u w V) (first |exact⟨row12 (PO.row (by assumption)),by assumption⟩) (first |(go_at_call 25;refine(cA.out _ (by assumption)).mono ?_;rintro e w4 ⟨t,rfl,ht,hts,hP4⟩;have n2:¬(9223372036854775807<sch.size+3+t.size):=(by omega)))
  go_wp2_with fail
  go_meet;exact⟨_,rfl,by show _=_;rw[HG2.out,append_data',append_data',ht.out],hP4.below⟩
 case rest=>
  obtain⟨t,rfl,ht,hb⟩:=hcut
  go_wp2_with fail
  go_ret;exact⟨t,rfl,ht,hb⟩
theorem Origin08_any (v:Value) (u:Lz.UrlL) (w:World) (hv:UrlVal w v u) (hE:EnvU w) (hO:OrigOk u):Calls Tryz.prog 12 #[v] w (RStr (Lz.originU u) w):=by
 by_cases hd:Lz.defP u.scheme= -1
 case neg=>
  rw[show Lz.originU u=u.scheme++[58,47,47]++Lz.atU u by unfold Lz.originU;rw[if_pos hd]];exact Origin08_def v u w hv hE hO hd
 obtain⟨goal,hg⟩:∃goal,goal=Lz.originU u:=⟨_,rfl⟩;rw[<-hg];have hnull:=fun h=>hg.trans (originU_null hd h);have hblob:=fun h=>hg.trans (originU_blob hd h);obtain⟨sch,usr,pas,hh,hst,prt,opq,a,c,xs,hq,hf,qry,frg,rfl,rfl,hx⟩:=hv.form;obtain⟨W,hW⟩:∃W,W=w.alloc (.cells #[.string sch,.string usr,.string pas,.bool hh,.string hst,.int .i64 prt,.bool opq,.slice a xs.length c,.bool hq,.bool hf,.string qry,.string frg] 25):=⟨_,rfl⟩;have hbW:Below w.heap.size w W:=by rw[hW];exact(Below.refl _ w).alloc (Nat.le_refl _) _
 have hR:W.heap[w.heap.size]? =some (.cells #[.string sch,.string usr,.string pas,.bool hh,.string hst,.int .i64 prt,.bool opq,.slice a xs.length c,.bool hq,.bool hf,.string qry,.string frg] 25 (0,0)):=by rw[hW];exact heap_new _ _
 have c0:=rowAt hR 0 (.string sch) rfl;have c6:=rowAt hR 6 (.bool opq) rfl;have c7:=rowAt hR 7 (.slice a xs.length c) rfl;obtain⟨d,hdd⟩:∃d,d=Lz.defP sch.data.toList:=⟨_,rfl⟩
 have hd0:¬((0:Int)<=d):=by
  have h2:d= -1:=by rw[hdd];exact hd
  omega
 have cD:Hid (Calls Tryz.prog 26 #[.string sch] W fun e w'=>e=.returned (.int .i64 d)/\W=w'):=Ih (by rw[hdd];exact Default08_any sch W);have HW:=Ih hW;by_cases hs:sch.data.toList=Lz.blobS
 case neg=>
  have e0:=text_no (k:=[98,108,111,98]) hs;have HG:Hid (goal=nullS):=Ih (hnull (fun h=>hs h.1));clear hW hR hv hx hg hE hO hd hdd hnull hblob hs;go_enter Tryz.func12,Tryz.ntmps12
  go_wp2_with (rw[<-HW.out])
  refine cD.out.mono ?_;rintro e w1 ⟨rfl,rfl⟩
  go_wp2_with fail
  go_ret;exact⟨_,rfl,Ih HG.out.symm,hbW⟩
 have e0:=text_yes (k:=[98,108,111,98]) hs;cases opq with
 | false=>
   have HG:Hid (goal=nullS):=Ih (hnull (fun h=>by cases h.2.1));clear hW hR hv hx hg hE hO hd hdd hnull hblob hs;go_enter Tryz.func12,Tryz.ntmps12
   go_wp2_with (rw[<-HW.out])
   refine cD.out.mono ?_;rintro e w1 ⟨rfl,rfl⟩
   go_wp2_with fail
   go_ret;exact⟨_,rfl,Ih HG.out.symm,hbW⟩
 | true=>
   cases xs with
   | nil=>
     have HG:Hid (goal=nullS):=Ih (hnull (fun h=>h.2.2 rfl));simp only[List.length_nil]at c7 HW;clear hW hR hv hx hg hE hO hd hdd hnull hblob hs;go_enter Tryz.func12,Tryz.ntmps12
     go_wp2_with (rw[<-HW.out])
     refine cD.out.mono ?_;rintro e w1 ⟨rfl,rfl⟩
     go_wp2_with fail
     go_ret;exact⟨_,rfl,Ih HG.out.symm,hbW⟩
   | cons x0 xr=>
     have hblob:=hblob ⟨hs,rfl,by simp⟩;obtain⟨G,o,ha,hG,hc0⟩:=hx 0 x0 rfl;subst ha;have hc1:W.cell? ⟨G,o+0,none⟩=some (.string x0):=by rw[hbW.cell (p:=⟨G,o+0,none⟩) hG];exact hc0
     have hc2:W.cell? ⟨G,o,none⟩=some (.string x0):=hc1;obtain⟨n,hn⟩:∃n,n=xr.length+1:=⟨_,rfl⟩;simp only[List.length_cons]at c7 HW;rw[<-hn]at c7 HW;have hlen:(0:Int)<(n:Int):=by omega
     have hn0:0<n:=by omega
     obtain⟨R,hRR⟩:∃R,R=Lz.parseU x0.data.toList none:=⟨_,rfl⟩;have HB:Hid (goal=blobR R):=Ih (by rw[hRR];exact hblob);have HR0:=Ih hRR;have cP:Hid (Calls Tryz.prog 7 #[.string x0,.pointer none] W (RParse R W)):=Ih (by rw[hRR];exact Parse08_any none (.pointer none) x0 W (hE.below hbW) rfl (fun y h=>by cases h) (fun y h=>by cases h));have HE:=Ih (hE.below hbW);have hneq:(n==0)=false:=by simp;omega
     have HN:=Ih hn;clear hW hR hv hx hg hE hO hd hdd hnull hblob hs hc0 hn hRR;go_enter Tryz.func12,Tryz.ntmps12
     go_wp2_with (rw[<-HN.out,<-HW.out])
     refine cD.out.mono ?_;rintro e w1 ⟨rfl,rfl⟩
     go_wp2_with fail
     refine cP.out.mono ?_;rintro e w2 ⟨v2,k,rfl,hb2,hres⟩;obtain⟨x,hox,hk⟩:=hres.cases;have hb02:=hbW.trans (hb2.mono hbW.size);obtain⟨sc1,us1,pa1,hh1,hs1,pr1,op1,a1,n1,c1,hq1,hf1,qr1,fr1,rfl⟩:=hox.form;have hEV:=(HE.out.below hb2).below ((Below.refl w2.heap.size w2).alloc (Nat.le_refl _) (.cells #[.string sc1,.string us1,.string pa1,.bool hh1,.string hs1,.int .i64 pr1,.bool op1,.slice a1 n1 c1,.bool hq1,.bool hf1,.string qr1,.string fr1] 25));have hbV:=hb02.alloc hb02.size (.cells #[.string sc1,.string us1,.string pa1,.bool hh1,.string hs1,.int .i64 pr1,.bool op1,.slice a1 n1 c1,.bool hq1,.bool hf1,.string qr1,.string fr1] 25);have hrV:(w2.alloc (.cells #[.string sc1,.string us1,.string pa1,.bool hh1,.string hs1,.int .i64 pr1,.bool op1,.slice a1 n1 c1,.bool hq1,.bool hf1,.string qr1,.string fr1] 25)).heap[w2.heap.size]? =some (.cells #[.string sc1,.string us1,.string pa1,.bool hh1,.string hs1,.int .i64 pr1,.bool op1,.slice a1 n1 c1,.bool hq1,.bool hf1,.string qr1,.string fr1] 25 (0,0)):=heap_new _ _
     have hoV:=hox.below ((Below.refl w2.heap.size w2).alloc (Nat.le_refl _) (.cells #[.string sc1,.string us1,.string pa1,.bool hh1,.string hs1,.int .i64 pr1,.bool op1,.slice a1 n1 c1,.bool hq1,.bool hf1,.string qr1,.string fr1] 25));clear hres hox HE cP cD hb2
     go_upto_region 5 with fail
     generalize w2.alloc (.cells #[.string sc1,.string us1,.string pa1,.bool hh1,.string hs1,.int .i64 pr1,.bool op1,.slice a1 n1 c1,.bool hq1,.bool hf1,.string qr1,.string fr1] 25)=V at hEV hbV hrV hoV⊢;generalize w2.heap.size=r2 at hrV⊢;have k0:=rowAt hrV 0 (.string sc1) rfl;rcases hk with⟨hR,hk0⟩|⟨m,hR,_,hk0⟩
     case inr=>
      have hm:=Lz.parse_err (HR0.out.symm.trans hR);have HG:Hid (goal=nullS):=Ih (by rw[HB.out,hR];rfl);have hkb:(k==0)=false:=by rw[hk0];simp;omega
      clear hR hk0 hm HB HR0
      go_wp2_with fail
      go_ret;exact⟨_,rfl,Ih HG.out.symm,hbV⟩
     case inl=>
      have hkb:(k==0)=true:=by rw[hk0];rfl
      have hxs:x.scheme=sc1.data.toList:=by
       obtain⟨_,_,_,_,_,_,_,_,_,_,_,_,_,_,h1,h2,_⟩:=hoV.val.form;rw[h2];simp only[Value.agg.injEq,Array.mk.injEq,List.cons.injEq,Value.string.injEq]at h1;rw[h1.1]
      have hOx:=origOk_parse (HR0.out.symm.trans hR) (fun y h=>by cases h);by_cases h1:sc1.data.toList=Lz.httpS\/sc1.data.toList=Lz.httpsS
      ·have HG:Hid (goal=x.scheme++[58,47,47]++Lz.atU x):=Ih (by rw[HB.out,hR,blobR,if_pos (by rw[hxs];exact h1)]);have hP2:PO r2 #[.string sc1,.string us1,.string pa1,.bool hh1,.string hs1,.int .i64 pr1,.bool op1,.slice a1 n1 c1,.bool hq1,.bool hf1,.string qr1,.string fr1] x w V:=⟨hrV,hbV,hEV,hoV.val⟩;have hPd:=hP2.drew;have HP:=Ih hP2;have n1':sc1.size<=1000000000:=by rw[<-len_of_size,<-hxs];exact hOx.scheme
       have n0:¬(9223372036854775807<sc1.size+3):=by omega
       have HG2:Hid (goal=sc1.data.toList++[58,47,47]++Lz.atU x):=Ih (by rw[HG.out,hxs])
       have cA:Hid (∀V,PO r2 #[.string sc1,.string us1,.string pa1,.bool hh1,.string hs1,.int .i64 pr1,.bool op1,.slice a1 n1 c1,.bool hq1,.bool hf1,.string qr1,.string fr1] x w V->Calls Tryz.prog 25 #[.agg #[.string sc1,.string us1,.string pa1,.bool hh1,.string hs1,.int .i64 pr1,.bool op1,.slice a1 n1 c1,.bool hq1,.bool hf1,.string qr1,.string fr1]] V fun e w'=>∃t:ByteArray,e=.returned (.string t)/\Hid (t.data.toList=Lz.atU x)/\t.size<=1000000100/\PO r2 #[.string sc1,.string us1,.string pa1,.bool hh1,.string hs1,.int .i64 pr1,.bool op1,.slice a1 n1 c1,.bool hq1,.bool hf1,.string qr1,.string fr1] x w w'):=Ih (by
        intro V hV;refine(at08_any _ x V hV.val hV.env.h hOx.p0 hOx.p1 hOx.host).mono ?_;rintro e w' ⟨t,he,ht,hb'⟩;refine⟨t,he,ht,?_,hV.call hb'⟩;rw[<-len_of_size,ht.out];unfold Lz.atU;split
        ·have:=hOx.host;omega
        ·have h1:=itoa_len2 hOx.p0 hOx.p1;have h2:=hOx.host;simp only[List.length_append,List.length_singleton];omega)
       clear hP2;by_cases h2:sc1.data.toList=Lz.httpS
       ·have q1:=text_yes (k:=[104,116,116,112]) h2;clear h1 h2 hxs hOx hR hk0 HB HR0 HG hoV hEV hrV
        go_upto_region 6 with fail
        go_cut [2] (fun s wx=>∃t:ByteArray,s=.string t/\Hid (t.data.toList=goal)/\Below w.heap.size w wx)
        case first=>
         have hPw:=HP.out
         go_region_held3 (fun V=>(V.cell? ⟨r2,0,none⟩=some (.string sc1)/\V.cell? ⟨r2,1,none⟩=some (.string us1)/\V.cell? ⟨r2,2,none⟩=some (.string pa1)/\V.cell? ⟨r2,3,none⟩=some (.bool hh1)/\V.cell? ⟨r2,4,none⟩=some (.string hs1)/\V.cell? ⟨r2,5,none⟩=some (.int .i64 pr1)/\V.cell? ⟨r2,6,none⟩=some (.bool op1)/\V.cell? ⟨r2,7,none⟩=some (.slice a1 n1 c1)/\V.cell? ⟨r2,8,none⟩=some (.bool hq1)/\V.cell? ⟨r2,9,none⟩=some (.bool hf1)/\V.cell? ⟨r2,10,none⟩=some (.string qr1)/\V.cell? ⟨r2,11,none⟩=some (.string fr1))/\PO r2 #[.string sc1,.string us1,.string pa1,.bool hh1,.string hs1,.int .i64 pr1,.bool op1,.slice a1 n1 c1,.bool hq1,.bool hf1,.string qr1,.string fr1] x w V) (first |exact⟨row12 (PO.row (by assumption)),by assumption⟩) (first |(go_at_call 25;refine(cA.out _ (by assumption)).mono ?_;rintro e w4 ⟨t,rfl,ht,hts,hP4⟩;have n2:¬(9223372036854775807<sc1.size+3+t.size):=(by omega)))
         go_wp2_with fail
         go_meet;exact⟨_,rfl,by show _=_;rw[HG2.out,append_data',append_data',ht.out],hP4.below⟩
        case rest=>
         obtain⟨t,rfl,ht,hb⟩:=hcut
         go_wp2_with fail
         go_ret;exact⟨t,rfl,ht,hb⟩
       ·have q1:=text_no (k:=[104,116,116,112]) h2;have q2:=text_yes (k:=[104,116,116,112,115]) (h1.resolve_left h2);clear h1 h2 hxs hOx hR hk0 HB HR0 HG hoV hEV hrV
        go_upto_region 6 with fail
        go_cut [2] (fun s wx=>∃t:ByteArray,s=.string t/\Hid (t.data.toList=goal)/\Below w.heap.size w wx)
        case first=>
         have hPw:=HP.out
         go_region_held3 (fun V=>(V.cell? ⟨r2,0,none⟩=some (.string sc1)/\V.cell? ⟨r2,1,none⟩=some (.string us1)/\V.cell? ⟨r2,2,none⟩=some (.string pa1)/\V.cell? ⟨r2,3,none⟩=some (.bool hh1)/\V.cell? ⟨r2,4,none⟩=some (.string hs1)/\V.cell? ⟨r2,5,none⟩=some (.int .i64 pr1)/\V.cell? ⟨r2,6,none⟩=some (.bool op1)/\V.cell? ⟨r2,7,none⟩=some (.slice a1 n1 c1)/\V.cell? ⟨r2,8,none⟩=some (.bool hq1)/\V.cell? ⟨r2,9,none⟩=some (.bool hf1)/\V.cell? ⟨r2,10,none⟩=some (.string qr1)/\V.cell? ⟨r2,11,none⟩=some (.string fr1))/\PO r2 #[.string sc1,.string us1,.string pa1,.bool hh1,.string hs1,.int .i64 pr1,.bool op1,.slice a1 n1 c1,.bool hq1,.bool hf1,.string qr1,.string fr1] x w V) (first |exact⟨row12 (PO.row (by assumption)),by assumption⟩) (first |(go_at_call 25;refine(cA.out _ (by assumption)).mono ?_;rintro e w4 ⟨t,rfl,ht,hts,hP4⟩;have n2:¬(9223372036854775807<sc1.size+3+t.size):=(by omega)))
         go_wp2_with fail
         go_meet;exact⟨_,rfl,by show _=_;rw[HG2.out,append_data',append_data',ht.out],hP4.below⟩
        case rest=>
         obtain⟨t,rfl,ht,hb⟩:=hcut
         go_wp2_with fail
         go_ret;exact⟨t,rfl,ht,hb⟩
      ·have HG:Hid (goal=nullS):=Ih (by rw[HB.out,hR,blobR,if_neg (by rw[hxs];exact h1)]);have q1:=text_no (k:=[104,116,116,112]) (fun h=>h1 (Or.inl h));have q2:=text_no (k:=[104,116,116,112,115]) (fun h=>h1 (Or.inr h));clear h1 hxs hOx hR hk0 HB HR0 hoV hEV hrV
       go_wp2_with fail
       go_ret;exact⟨_,rfl,Ih HG.out.symm,hbV⟩
theorem zero_textOk:TextOk zeroU:=⟨by decide,by decide,by decide,by decide,by decide +kernel⟩
theorem zero_origOk:OrigOk zeroU:=⟨by decide,by decide,by decide,by decide⟩
structure TellOk (u:Lz.UrlL):Prop where
 text:TextOk u
 orig:OrigOk u
 len:(Lz.textU u).length<=25000
theorem zero_tell:TellOk zeroU:=⟨zero_textOk,zero_origOk,by decide +kernel⟩
theorem parse_tell {s:List UInt8} {b:Option Lz.UrlL} {u:Lz.UrlL} (e:Lz.parseU s b=.ok u) (hb:∀x,b=some x->∃t,Lz.parseU t none=.ok x):TellOk u:=by
 refine⟨textOk_parse e hb,origOk_parse e hb,?_⟩;have h1:=Lz.parse_wq e hb;have h2:=Lz.textU_len (u:=u) (Lz.parse_form e).port;omega
def Ans (R:Lz.UR) (u:Lz.UrlL) (n:Int):Prop:=(R=.ok u/\n=0)\/∃k:Nat,R=.er k/\u=zeroU/\n=(k:Int)
theorem Ans.one {R:Lz.UR} {u u':Lz.UrlL} {n n':Int} (h:Ans R u n) (h':Ans R u' n'):u'=u/\n'=n:=by
 rcases h with⟨rfl,rfl⟩|⟨k,rfl,rfl,rfl⟩
 ·rcases h' with⟨h1,rfl⟩|⟨k,h1,_⟩
  ·injection h1 with h1;exact⟨h1.symm,rfl⟩
  ·cases h1
 ·rcases h' with⟨h1,_⟩|⟨k',h1,rfl,rfl⟩
  ·cases h1
  ·injection h1 with h1;exact⟨rfl,by rw[h1]⟩
theorem Ans.tell {s:List UInt8} {b:Option Lz.UrlL} {u:Lz.UrlL} {n:Int} (h:Ans (Lz.parseU s b) u n) (hb:∀x,b=some x->∃t,Lz.parseU t none=.ok x):TellOk u:=by
 rcases h with⟨h,_⟩|⟨k,_,rfl,_⟩
 ·exact parse_tell h hb
 ·exact zero_tell
theorem text_c {C:Array Value} {u:Lz.UrlL} {V:World} (hu:TellOk u) (hv:UrlVal V (.agg C) u) (hE:EnvU V):Calls Tryz.prog 9 #[.agg C] V fun e w'=>e=.returned (.string ⟨(Lz.textU u).toArray⟩)/\Below V.heap.size V w':=
 (Text_any _ u V hv hE.h hu.text.p0 hu.text.p1 hu.text.host (by have:=hu.len;omega) hu.text.path).mono fun _ _ h=>str_det h
theorem text08_c {C:Array Value} {u:Lz.UrlL} {V:World} (hu:TellOk u) (hv:UrlVal V (.agg C) u) (hE:EnvU V):Calls Tryz.prog 10 #[.agg C] V fun e w'=>e=.returned (.string ⟨(Lz.textU u).toArray⟩)/\Below V.heap.size V w':=
 (Text08_any _ u V hv hE.h hu.text.p0 hu.text.p1 hu.text.host (by have:=hu.len;omega) hu.text.path).mono fun _ _ h=>str_det h
theorem origin_c {C:Array Value} {u:Lz.UrlL} {V:World} (hu:TellOk u) (hv:UrlVal V (.agg C) u) (hE:EnvU V):Calls Tryz.prog 11 #[.agg C] V fun e w'=>e=.returned (.string ⟨(Lz.originU u).toArray⟩)/\Below V.heap.size V w':=
 (Origin_any _ u V hv hE hu.orig).mono fun _ _ h=>str_det h
theorem origin08_c {C:Array Value} {u:Lz.UrlL} {V:World} (hu:TellOk u) (hv:UrlVal V (.agg C) u) (hE:EnvU V):Calls Tryz.prog 12 #[.agg C] V fun e w'=>e=.returned (.string ⟨(Lz.originU u).toArray⟩)/\Below V.heap.size V w':=
 (Origin08_any _ u V hv hE hu.orig).mono fun _ _ h=>str_det h
theorem PU.base {r:Nat} {C:Array Value} {u:Lz.UrlL} {w V:World} (h:PU r C u w V):BaseAt V.heap.size V (.pointer (some ⟨r,0,none⟩)) (some u):=by
 obtain⟨sch,usr,pas,hh,hst,prt,opq,a,c,xs,hq,hf,qry,frg,h1,hu,hx⟩:=h.own.val.form;obtain rfl:C= #[.string sch,.string usr,.string pas,.bool hh,.string hst,.int .i64 prt,.bool opq,.slice a xs.length c,.bool hq,.bool hf,.string qry,.string frg]:=by injection h1
 exact⟨r,(0,0),sch,usr,pas,hh,hst,prt,opq,a,c,xs,hq,hf,qry,frg,rfl,row_lt h.row,h.row,hu,hx⟩
theorem PU.put {r:Nat} {C0 C:Array Value} {u:Lz.UrlL} {w V:World} (h0:V.heap[r]? =some (.cells C0 25 (0,0))) (hw:w.heap.size<=r) (hE:EnvU w) (hb:Below w.heap.size w V) (ho:UrlOwn V (.agg C) u):PU r C u w (V.setRow r C):=
 ⟨setRow_heap _ _ _ _ _ _ h0,below_setRow hb hw,hE.below (below_setRow hb hw),ho.setRow h0 C⟩
theorem PU.other {r r':Nat} {C C0 C':Array Value} {u:Lz.UrlL} {w V:World} (h:PU r C u w V) (h0:V.heap[r']? =some (.cells C0 25 (0,0))) (hne:r≠r') (hw:w.heap.size<=r') (hE:EnvU w):PU r C u w (V.setRow r' C'):=
 ⟨by rw[setRow_other _ _ _ _ hne];exact h.row,below_setRow h.below hw,hE.below (below_setRow h.below hw),h.own.setRow h0 C'⟩
end Go.Proofs.YtipndhbgehdeoaaGreatDoor
