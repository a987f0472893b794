/-
  Package urls: Parse.
-/
import Derived.Test.YtjhccadmmnjpeaaGreatDoorT34
import Derived.Test.YtjhccadmmnjpeaaGreatDoorT33
set_option maxHeartbeats 8000000
set_option maxRecDepth 100000
namespace Go.Proofs.YtjhccadmmnjpeaaGreatDoor
open Go.RowKit
attribute [local go_sem ↓] Go.wp_at_zero Go.wp_at_succ
abbrev zeroC:Array Value:= #[.string ⟨#[]⟩,.string ⟨#[]⟩,.string ⟨#[]⟩,.bool false,.string ⟨#[]⟩,.int .i64 0,.bool false,.slice none 0 0,.bool false,.bool false,.string ⟨#[]⟩,.string ⟨#[]⟩]
theorem zero_own (w:World):UrlOwn w (.agg zeroC) zeroU:=⟨0,⟨⟨#[]⟩,⟨#[]⟩,⟨#[]⟩,false,⟨#[]⟩,0,false,.slice none 0 0,[],false,false,⟨#[]⟩,⟨#[]⟩⟩,rfl,PathOwn.nil _ _,Ih rfl⟩
def ParseRes (r:Lz.UR) (w:World) (v:Value) (n:Int):Prop:=match r with
 | .ok u=>n=0/\UrlOwn w v u
 | .er k=>n=(k:Int)/\UrlOwn w v zeroU
def RParseU (r:Lz.UR) (w:World) (e:Ending) (w':World):Prop:=∃v n,e=.returned (.tuple #[v,.int .i64 n])/\Below w.heap.size w w'/\ParseRes r w' v n
structure TextOk (y:Lz.UrlL):Prop where
 host:y.host.length<=1000000000
 path:y.path.length<=1000000000
 p0: -9223372036854775808<=y.port
 p1:y.port<=9223372036854775807
 text:(Lz.textU y).length<=800000
structure P8 (r4 r8:Nat) (C8:Array Value) (u:Lz.UrlL) (W0 V:World):Prop where
 row8:V.heap[r8]? =some (.cells C8 36 (0,0))
 row4:∃C4,V.heap[r4]? =some (.cells C4 36 (0,0))/\C4.size=12
 below:Below r4 W0 V
 own:UrlOwn V (.agg C8) u
theorem P8.call {r4 r8:Nat} {C8:Array Value} {u:Lz.UrlL} {W0 V V':World} (h:P8 r4 r8 C8 u W0 V) (hb:Below V.heap.size V V'):P8 r4 r8 C8 u W0 V':=by
 obtain⟨C4,h4,h12⟩:=h.row4;exact⟨(hb.block _ (row_lt h.row8)).trans h.row8,⟨C4,(hb.block _ (row_lt h4)).trans h4,h12⟩,h.below.trans (hb.mono (Nat.le_of_lt (row_lt h4))),h.own.below hb⟩
theorem P8.drew {r4 r8:Nat} {C8:Array Value} {u:Lz.UrlL} {W0 V:World} (h:P8 r4 r8 C8 u W0 V):P8 r4 r8 C8 u W0 V.drew:=h.call (Below.refl _ _).drew
theorem P8.store {r4 r8:Nat} {C8:Array Value} {u:Lz.UrlL} {W0 V:World} {o:Oper} {a:Act} {K:Act->World->Prop} {Q:Exit->Act->World->Prop} (h:P8 r4 r8 C8 u W0 V) (hne:r4≠r8) (h12:C8.size=12) (h1:C8.all (·.oneCell')=true) (x y:Operand) (ho:o.op=.store 36 x y) (hx:a.eval x=.pointer (some ⟨r4,0,none⟩)) (hy:a.eval y=.agg C8)
  (hK:P8 r4 r8 C8 u W0 (V.setRow r4 C8)/\(V.setRow r4 C8).heap[r4]? =some (.cells C8 36 (0,0))->K (a.put o.dst undef) (V.setRow r4 C8)):o.wp Tryz.prog a V K Q:=by
 obtain⟨C4,h4,hs⟩:=h.row4;have hrow:=setRow_heap V r4 C4 C8 36 (0,0) h4;exact wp_store_row 36 x y ho r4 C8 hx hy 36 C4 h4 (by rw[h12];exact urlSize) (by rw[hs,h12]) h1 (hK ⟨⟨by rw[setRow_other _ _ _ _ (by omega)];exact h.row8,⟨C8,hrow,h12⟩,below_setRowT h.below (Nat.le_refl _),h.own.setRow h4 C8⟩,hrow⟩)
theorem exec_load_url {o:Oper} {ev:Operand->Value} {w:World} (x:Operand) (ho:o.op=.load 36 x)
  (g:Nat) (hx:ev x=.pointer (some ⟨g,0,none⟩)) (cs:Array Value) (fr:Nat×Nat) (hg:w.heap[g]? =some (.cells cs 36 fr)) (hs:cs.size=12):(execOp ev o).run Tryz.prog w=.ok (.value (.agg cs)) w:=by
 unfold execOp;simp only[ho,hx,Instr.loadAt,Instr.sureAddr,Sem.run_bind,Sem.run_pure,Result.andThen_ok,run_loadVar_row w g 36 36 cs fr _ hg Tryz.underlying36 rfl (by rw[hs];exact urlSize)]
theorem UrlOwn.form {w:World} {v:Value} {u:Lz.UrlL} (h:UrlOwn w v u):∃(sch usr pas:ByteArray) (hh:Bool) (hst:ByteArray) (prt:Int) (opq:Bool) (a:Option Addr) (n c:Nat) (hq hf:Bool) (qry frg:ByteArray),
  v=.agg #[.string sch,.string usr,.string pas,.bool hh,.string hst,.int .i64 prt,.bool opq,.slice a n c,.bool hq,.bool hf,.string qry,.string frg]:=by
 obtain⟨sch,usr,pas,hh,hst,prt,opq,a,c,xs,hq,hf,qry,frg,h1,_⟩:=h.val.form;exact⟨sch,usr,pas,hh,hst,prt,opq,a,xs.length,c,hq,hf,qry,frg,h1⟩
structure P5 (r6 p:Nat) (C6 Cp:Array Value) (fr:Nat×Nat) (x y:Lz.UrlL) (W0 V:World):Prop where
 row6:V.heap[r6]? =some (.cells C6 36 (0,0))
 rowp:V.heap[p]? =some (.cells Cp 36 fr)
 below:Below W0.heap.size W0 V
 val6:UrlVal V (.agg C6) x
 valp:UrlVal V (.agg Cp) y
theorem P5.call {r6 p:Nat} {C6 Cp:Array Value} {fr:Nat×Nat} {x y:Lz.UrlL} {W0 V V':World} (h:P5 r6 p C6 Cp fr x y W0 V) (hb:Below V.heap.size V V'):P5 r6 p C6 Cp fr x y W0 V':=
 ⟨(hb.block _ (row_lt h.row6)).trans h.row6,(hb.block _ (row_lt h.rowp)).trans h.rowp,below_call h.below hb,h.val6.below hb,h.valp.below hb⟩
theorem P5.drew {r6 p:Nat} {C6 Cp:Array Value} {fr:Nat×Nat} {x y:Lz.UrlL} {W0 V:World} (h:P5 r6 p C6 Cp fr x y W0 V):P5 r6 p C6 Cp fr x y W0 V.drew:=h.call (Below.refl _ _).drew
theorem row12 {V:World} {r:Nat} {x0 x1 x2 x3 x4 x5 x6 x7 x8 x9 x10 x11:Value} {t:TypeId} {fr:Nat×Nat} (h:V.heap[r]? =some (.cells #[x0,x1,x2,x3,x4,x5,x6,x7,x8,x9,x10,x11] t fr)):V.cell? ⟨r,0,none⟩=some (x0)/\V.cell? ⟨r,1,none⟩=some (x1)/\V.cell? ⟨r,2,none⟩=some (x2)/\V.cell? ⟨r,3,none⟩=some (x3)/\V.cell? ⟨r,4,none⟩=some (x4)/\V.cell? ⟨r,5,none⟩=some (x5)/\V.cell? ⟨r,6,none⟩=some (x6)/\V.cell? ⟨r,7,none⟩=some (x7)/\V.cell? ⟨r,8,none⟩=some (x8)/\V.cell? ⟨r,9,none⟩=some (x9)/\V.cell? ⟨r,10,none⟩=some (x10)/\V.cell? ⟨r,11,none⟩=some (x11):=
 ⟨rowAt h 0 _ rfl,rowAt h 1 _ rfl,rowAt h 2 _ rfl,rowAt h 3 _ rfl,rowAt h 4 _ rfl,rowAt h 5 _ rfl,rowAt h 6 _ rfl,rowAt h 7 _ rfl,rowAt h 8 _ rfl,rowAt h 9 _ rfl,rowAt h 10 _ rfl,rowAt h 11 _ rfl⟩
theorem parse_none {s:List UInt8} (h:s.length<=4000):Lz.parseU s none=Lz.readU s none:=by
 unfold Lz.parseU;rw[if_neg (by omega)]
theorem parse_some {s:List UInt8} (h:s.length<=4000) (y:Lz.UrlL):Lz.parseU s (some y)=if Lz.readU (Lz.textU y) none=.ok y then Lz.readU s (some y)else .er 2:=by
 unfold Lz.parseU;rw[if_neg (by omega)]
theorem ParseU_any (b:Option Lz.UrlL) (bv:Value) (s:ByteArray) (w:World) (hE:EnvU w) (hbv:BaseAt w.heap.size w bv b) (hB:∀y,b=some y->TextOk y):Calls Tryz.prog 20 #[.string s,bv] w (RParseU (Lz.parseU s.data.toList b) w):=by
 obtain⟨W,hW⟩:∃W,W=w.alloc (.cells zeroC 36):=⟨_,rfl⟩;have hbW:Below w.heap.size w W:=by rw[hW];exact(Below.refl _ w).alloc (Nat.le_refl _) _
 have hR:W.heap[w.heap.size]? =some (.cells zeroC 36 (0,0)):=by rw[hW];exact heap_new _ _
 have hEW:=hE.below hbW;have hlt:=row_lt hR;have hbvW:BaseAt W.heap.size W bv b:=(hbv.at hbW).mono (by omega);obtain⟨goal,hg⟩:∃goal,goal=Lz.parseU s.data.toList b:=⟨_,rfl⟩;rw[<-hg];have HG:=Ih hg;have HW:=Ih hW;have HR:=Ih hR;clear hg hW hR hE;by_cases hlen:4000<s.size
 ·have hlenI:(4000:Int)<(s.size:Int):=by omega
  have HG2:Hid (goal=.er 3):=by
   show _=_;rw[HG.out];unfold Lz.parseU;rw[if_pos (by rw[len_of_size];exact hlen)]
  clear hlen;go_enter Tryz.func20,Tryz.ntmps20
  go_wp2_with (first |rw[<-HW.out]|(refine wpList_store_row rfl 36 (.tmp 4) (.tmp 13) rfl w.heap.size zeroC rfl rfl 36 _ HR.out urlSize rfl (by simp[Value.oneCell']) ?_))
  refine bodyPost_ret (results_row2 (P:=Tryz.prog) (u:=5) rfl _ _ w.heap.size 36 _ (0,0) _ rfl (setRow_heap _ _ _ _ _ _ HR.out) Tryz.underlying36 rfl urlSize) rfl ?_;refine⟨_,_,rfl,below_setRowT hbW (Nat.le_refl _),?_⟩;rw[HG2.out];exact⟨rfl,zero_own _⟩
 ·have hlenI:¬(4000:Int)<(s.size:Int):=by omega
  have hsz:s.size<=4000:=by omega
  have hsl:s.data.toList.length<=4000:=by rw[len_of_size];exact hsz
  clear hlen;go_enter Tryz.func20,Tryz.ntmps20
  go_upto_region 3 with(rw[<-HW.out])
  go_cut [15] (fun s wx=>s=.bool b.isSome/\W=wx)
  case first=>
   cases b with
   | none=>
     obtain rfl:bv=.pointer none:=hbvW
     go_wp2_with fail
     go_meet;exact⟨rfl,rfl⟩
   | some y=>
     obtain⟨p,fr,sch,usr,pas,hh,hst,prt,opq,a,c,xs,hq,hf,qry,frg,rfl,_⟩:=hbvW
     go_wp2_with fail
     go_meet;exact⟨rfl,rfl⟩
  case rest=>
  obtain⟨rfl,rfl⟩:=hcut
  go_upto_if 15 with fail
  go_cut [] (fun wx=>Below W.heap.size W wx/\Hid (goal=Lz.readU s.data.toList b)/\Hid (∀y,b=some y->Lz.readU (Lz.textU y) none=.ok y))
  case first=>
   cases b with
   | none=>
     obtain rfl:bv=.pointer none:=hbvW;have HG3:Hid (goal=Lz.readU s.data.toList none):=Ih (HG.out.trans (parse_none hsl));clear HG
     go_wp2_with fail
     go_meet;exact⟨Below.refl _ _,HG3,Ih (fun y hy=>by cases hy)⟩
   | some y=>
     obtain⟨yh,yp,y0,y1,yt⟩:=hB y rfl;obtain⟨p,fr,sch,usr,pas,hh,hst,prt,opq,a,c,xs,hq,hf,qry,frg,rfl,hp,hrow,hu,hx⟩:=hbvW
     have hyv:UrlVal W (.agg #[.string sch,.string usr,.string pas,.bool hh,.string hst,.int .i64 prt,.bool opq,.slice a xs.length c,.bool hq,.bool hf,.string qry,.string frg]) y:=
      ⟨⟨sch,usr,pas,hh,hst,prt,opq,.slice a xs.length c,xs,hq,hf,qry,frg⟩,rfl,⟨a,c,xs,rfl,rfl,hx⟩,Ih hu.symm⟩
     have cT:=Ih (Text_any _ y W hyv hEW.h y0 y1 yh (by omega) yp);have Hrow:=Ih hrow;have Hyv:=Ih hyv;clear hrow hu hx hyv hbv
     go_wp2_with (refine wpList_load_row rfl 36 (.tmp 18) rfl p rfl 36 _ fr _ Hrow.out Tryz.underlying36 rfl urlSize ?_)
     refine cT.out.mono ?_;rintro e w1 ⟨t,rfl,ht,hb1⟩;have htz:t.size<=800000:=by rw[<-len_of_size,ht.out];exact yt
     have cR:=Ih (read_any none (.pointer none) t htz w1 (hEW.below hb1) rfl (fun y hy=>by cases hy));rw[ht.out]at cR;obtain⟨rT,hrT⟩:∃rT,rT=Lz.readU (Lz.textU y) none:=⟨_,rfl⟩;rw[<-hrT]at cR;have HRT:=Ih hrT;clear hrT cT
     go_wp2_with fail
     refine cR.out.mono ?_;rintro e w2 ⟨v1,v2,rfl,hb2,hres⟩;have hb02:=below_call hb1 hb2;clear cR;cases rT with
     | er n=>
       obtain⟨hf2,hv1⟩:=hres;obtain⟨pb,rfl⟩:=hf2;obtain⟨sc1,us1,pa1,hh1,hs1,pr1,op1,a1,n1,c1,hq1,hf1,qr1,fr1,rfl⟩:=hv1.form
       have HG4:Hid (goal=.er 2):=by
        show _=_;rw[HG.out,parse_some hsl,<-HRT.out,if_neg (by simp)]
       have hbV:Below w.heap.size w (w2.alloc (.cells #[.string sc1,.string us1,.string pa1,.bool hh1,.string hs1,.int .i64 pr1,.bool op1,.slice a1 n1 c1,.bool hq1,.bool hf1,.string qr1,.string fr1] 36)):=(hbW.trans (hb02.mono hbW.size)).alloc (Nat.le_trans hbW.size hb02.size) _
       have hRV:(w2.alloc (.cells #[.string sc1,.string us1,.string pa1,.bool hh1,.string hs1,.int .i64 pr1,.bool op1,.slice a1 n1 c1,.bool hq1,.bool hf1,.string qr1,.string fr1] 36)).heap[w.heap.size]? =some (.cells zeroC 36 (0,0)):=by
        rw[Below.heap_alloc _ _ _ (Nat.lt_of_lt_of_le hlt hb02.size)];exact(hb02.block _ hlt).trans HR.out
       clear HG HRT hv1
       go_upto_region 5 with fail
       generalize w2.alloc (.cells #[.string sc1,.string us1,.string pa1,.bool hh1,.string hs1,.int .i64 pr1,.bool op1,.slice a1 n1 c1,.bool hq1,.bool hf1,.string qr1,.string fr1] 36)=V at hbV hRV⊢
       go_quiet (fail)
       have hbq:Below w.heap.size w (V.drewN nq):=below_drewN hbV nq;have hRq:(V.drewN nq).heap[w.heap.size]? =some (.cells zeroC 36 (0,0)):=hRV;generalize V.drewN nq=V2 at hbq hRq⊢
       go_wp2_with (refine wpList_store_row rfl 36 (.tmp 4) (.tmp 34) rfl w.heap.size zeroC rfl rfl 36 _ hRq urlSize rfl (by simp[Value.oneCell']) ?_)
       refine bodyPost_ret (results_row2 (P:=Tryz.prog) (u:=5) rfl _ _ w.heap.size 36 _ (0,0) _ rfl (setRow_heap _ _ _ _ _ _ hRq) Tryz.underlying36 rfl urlSize) rfl ?_;refine⟨_,_,rfl,below_setRowT hbq (Nat.le_refl _),?_⟩;rw[HG4.out];exact⟨rfl,zero_own _⟩
     | ok x=>
       obtain⟨rfl,hv1⟩:=hres;obtain⟨sc1,us1,pa1,hh1,hs1,pr1,op1,a1,n1,c1,hq1,hf1,qr1,fr1,rfl⟩:=hv1.form
       have hxl:x.path.length<=1000000000:=by
        have h1:=Lz.readU_len HRT.out.symm (fun _ h=>by cases h);have h2:=Lz.path_wq x;have h3:Lz.bq none=0:=rfl;omega
       have hP:P5 w2.heap.size p #[.string sc1,.string us1,.string pa1,.bool hh1,.string hs1,.int .i64 pr1,.bool op1,.slice a1 n1 c1,.bool hq1,.bool hf1,.string qr1,.string fr1] #[.string sch,.string usr,.string pas,.bool hh,.string hst,.int .i64 prt,.bool opq,.slice a xs.length c,.bool hq,.bool hf,.string qry,.string frg] fr x y w2 (w2.alloc (.cells #[.string sc1,.string us1,.string pa1,.bool hh1,.string hs1,.int .i64 pr1,.bool op1,.slice a1 n1 c1,.bool hq1,.bool hf1,.string qr1,.string fr1] 36)):=by
        have hrp:w2.heap[p]? =some (.cells #[.string sch,.string usr,.string pas,.bool hh,.string hst,.int .i64 prt,.bool opq,.slice a xs.length c,.bool hq,.bool hf,.string qry,.string frg] 36 fr):=(hb02.block _ hp).trans Hrow.out;have hba:Below w2.heap.size w2 (w2.alloc (.cells #[.string sc1,.string us1,.string pa1,.bool hh1,.string hs1,.int .i64 pr1,.bool op1,.slice a1 n1 c1,.bool hq1,.bool hf1,.string qr1,.string fr1] 36)):=(Below.refl _ _).alloc (Nat.le_refl _) _;exact⟨heap_new _ _,(hba.block _ (row_lt hrp)).trans hrp,hba,hv1.val.below hba,(Hyv.out.below hb02).below hba⟩
       obtain⟨q,hq0⟩:∃q,q=decide (x=y):=⟨_,rfl⟩;have HQ:=Ih hq0;have cS:Hid (∀r6 V,P5 r6 p #[.string sc1,.string us1,.string pa1,.bool hh1,.string hs1,.int .i64 pr1,.bool op1,.slice a1 n1 c1,.bool hq1,.bool hf1,.string qr1,.string fr1] #[.string sch,.string usr,.string pas,.bool hh,.string hst,.int .i64 prt,.bool opq,.slice a xs.length c,.bool hq,.bool hf,.string qry,.string frg] fr x y w2 V->Calls Tryz.prog 45 #[.agg #[.string sc1,.string us1,.string pa1,.bool hh1,.string hs1,.int .i64 pr1,.bool op1,.slice a1 n1 c1,.bool hq1,.bool hf1,.string qr1,.string fr1],.agg #[.string sch,.string usr,.string pas,.bool hh,.string hst,.int .i64 prt,.bool opq,.slice a xs.length c,.bool hq,.bool hf,.string qry,.string frg]] V fun e w'=>e=.returned (.bool q)/\P5 r6 p #[.string sc1,.string us1,.string pa1,.bool hh1,.string hs1,.int .i64 pr1,.bool op1,.slice a1 n1 c1,.bool hq1,.bool hf1,.string qr1,.string fr1] #[.string sch,.string usr,.string pas,.bool hh,.string hst,.int .i64 prt,.bool opq,.slice a xs.length c,.bool hq,.bool hf,.string qry,.string frg] fr x y w2 w'):=Ih (fun r6 V hV=>(same_any _ _ x y V hV.val6 hV.valp hxl).mono fun e w' ⟨h1,h2⟩=>⟨by rw[h1,hq0],hV.call h2⟩)
       clear hq0 hv1
       go_upto_region 5 with fail
       generalize w2.alloc (.cells #[.string sc1,.string us1,.string pa1,.bool hh1,.string hs1,.int .i64 pr1,.bool op1,.slice a1 n1 c1,.bool hq1,.bool hf1,.string qr1,.string fr1] 36)=V at hP⊢;generalize hr6:w2.heap.size=r6 at hP⊢;have hPd:=hP.drew;have cS6:=Ih (cS.out r6);have HP:=Ih hP;clear hr6 cS hP
       go_cut [33] (fun s wx=>s=.bool (!q)/\P5 r6 p #[.string sc1,.string us1,.string pa1,.bool hh1,.string hs1,.int .i64 pr1,.bool op1,.slice a1 n1 c1,.bool hq1,.bool hf1,.string qr1,.string fr1] #[.string sch,.string usr,.string pas,.bool hh,.string hst,.int .i64 prt,.bool opq,.slice a xs.length c,.bool hq,.bool hf,.string qry,.string frg] fr x y w2 wx)
       case first=>
        go_region_held3 (fun V=>(V.cell? ⟨r6,0,none⟩=some (.string sc1)/\V.cell? ⟨r6,1,none⟩=some (.string us1)/\V.cell? ⟨r6,2,none⟩=some (.string pa1)/\V.cell? ⟨r6,3,none⟩=some (.bool hh1)/\V.cell? ⟨r6,4,none⟩=some (.string hs1)/\V.cell? ⟨r6,5,none⟩=some (.int .i64 pr1)/\V.cell? ⟨r6,6,none⟩=some (.bool op1)/\V.cell? ⟨r6,7,none⟩=some (.slice a1 n1 c1)/\V.cell? ⟨r6,8,none⟩=some (.bool hq1)/\V.cell? ⟨r6,9,none⟩=some (.bool hf1)/\V.cell? ⟨r6,10,none⟩=some (.string qr1)/\V.cell? ⟨r6,11,none⟩=some (.string fr1))/\(V.cell? ⟨p,0,none⟩=some (.string sch)/\V.cell? ⟨p,1,none⟩=some (.string usr)/\V.cell? ⟨p,2,none⟩=some (.string pas)/\V.cell? ⟨p,3,none⟩=some (.bool hh)/\V.cell? ⟨p,4,none⟩=some (.string hst)/\V.cell? ⟨p,5,none⟩=some (.int .i64 prt)/\V.cell? ⟨p,6,none⟩=some (.bool opq)/\V.cell? ⟨p,7,none⟩=some (.slice a xs.length c)/\V.cell? ⟨p,8,none⟩=some (.bool hq)/\V.cell? ⟨p,9,none⟩=some (.bool hf)/\V.cell? ⟨p,10,none⟩=some (.string qry)/\V.cell? ⟨p,11,none⟩=some (.string frg))/\P5 r6 p #[.string sc1,.string us1,.string pa1,.bool hh1,.string hs1,.int .i64 pr1,.bool op1,.slice a1 n1 c1,.bool hq1,.bool hf1,.string qr1,.string fr1] #[.string sch,.string usr,.string pas,.bool hh,.string hst,.int .i64 prt,.bool opq,.slice a xs.length c,.bool hq,.bool hf,.string qry,.string frg] fr x y w2 V) (first |exact⟨row12 (P5.row6 (by assumption)),row12 (P5.rowp (by assumption)),by assumption⟩) (first |(go_at_call 45;refine(cS6.out _ (by assumption)).mono ?_;rintro e w4 ⟨rfl,hP4⟩))
        go_wp2_with fail
        go_meet;exact⟨rfl,by assumption⟩
       case rest=>
       obtain⟨rfl,hP4⟩:=hcut;cases q with
       | true=>
         have hxy:x=y:=of_decide_eq_true HQ.out.symm
         have HG3:Hid (goal=Lz.readU s.data.toList (some y)):=by
          show _=_;rw[HG.out,parse_some hsl,<-HRT.out,if_pos (by rw[hxy])]
         have HF:Hid (∀y',some y=some y'->Lz.readU (Lz.textU y') none=.ok y'):=Ih (fun y' e=>by injection e with e;subst e;rw[<-HRT.out,hxy]);have hb4:=below_call hb02 hP4.below;clear HQ HG hxy
         go_wp2_with fail
         go_meet;exact⟨hb4,HG3,HF⟩
       | false=>
         have HG4:Hid (goal=.er 2):=by
          show _=_;rw[HG.out,parse_some hsl,<-HRT.out,if_neg (fun e=>by injection e with e;exact of_decide_eq_false HQ.out.symm e)]
         have hb4:=below_call hb02 hP4.below;have hbq:Below w.heap.size w wc:=hbW.trans (hb4.mono hbW.size);have hRq:wc.heap[w.heap.size]? =some (.cells zeroC 36 (0,0)):=(hb4.block _ hlt).trans HR.out;clear HQ HG
         go_wp2_with (refine wpList_store_row rfl 36 (.tmp 4) (.tmp 34) rfl w.heap.size zeroC rfl rfl 36 _ hRq urlSize rfl (by simp[Value.oneCell']) ?_)
         refine bodyPost_ret (results_row2 (P:=Tryz.prog) (u:=5) rfl _ _ w.heap.size 36 _ (0,0) _ rfl (setRow_heap _ _ _ _ _ _ hRq) Tryz.underlying36 rfl urlSize) rfl ?_;refine⟨_,_,rfl,below_setRowT hbq (Nat.le_refl _),?_⟩;rw[HG4.out];exact⟨rfl,zero_own _⟩
  case rest=>
   obtain⟨hbc,HG3,HF⟩:=hcut
   have hN:∀y,b=some y->Lz.NU y/\Lz.wq y<=20000000:=fun y hy=>by
    have h1:=HF.out y hy;have h2:=(hB y hy).text;have h3:=Lz.readU_len h1 (fun _ h=>by cases h);have h4:Lz.bq none=0:=rfl;exact⟨Lz.readU_form h1 (fun _ h=>by cases h),by omega⟩
   have cR:=Ih (read_any b bv s (by omega) wc (hEW.below hbc) ((hbvW.at hbc).mono hbc.size) hN);rw[<-HG3.out]at cR;have Herr:Hid (∀n,goal=.er n->n=70\/n=71\/n=72\/n=81\/n=82):=Ih (fun n hn=>Lz.readU_err (HG3.out.symm.trans hn));clear HG HG3 HF hN hB hbv hbvW
   go_wp2_with fail
   refine cR.out.mono ?_;rintro e w2 ⟨v1,v2,rfl,hb2,hres⟩;have hb02:=below_call hbc hb2;clear cR
   obtain⟨u,n,hn,hv1⟩:∃(u:Lz.UrlL) (n:Int),(ParseRes goal w2 v1 n/\(∀V,Calls Tryz.prog 46 #[v2] V (RInt n V))/\((∃u',goal=.ok u'/\u=u'/\n=0)\/∃k,goal=.er k/\u=zeroU/\n=(k:Int)))/\UrlOwn w2 v1 u:=by
    cases goal with
    | ok u'=>
      obtain⟨rfl,h1⟩:=hres;exact⟨u',0,⟨⟨rfl,h1⟩,code_ok,Or.inl ⟨u',rfl,rfl,rfl⟩⟩,h1⟩
    | er k=>
      obtain⟨h0,h1⟩:=hres;exact⟨zeroU,k,⟨⟨rfl,h1⟩,codeU_er k (Herr.out k rfl) v2 h0,Or.inr ⟨k,rfl,rfl,rfl⟩⟩,h1⟩
   obtain⟨_,hcode,hgo⟩:=hn;obtain⟨sc1,us1,pa1,hh1,hs1,pr1,op1,a1,n1,c1,hq1,hf1,qr1,fr1,rfl⟩:=hv1.form
   have hP:P8 w.heap.size w2.heap.size #[.string sc1,.string us1,.string pa1,.bool hh1,.string hs1,.int .i64 pr1,.bool op1,.slice a1 n1 c1,.bool hq1,.bool hf1,.string qr1,.string fr1] u w (w2.alloc (.cells #[.string sc1,.string us1,.string pa1,.bool hh1,.string hs1,.int .i64 pr1,.bool op1,.slice a1 n1 c1,.bool hq1,.bool hf1,.string qr1,.string fr1] 36)):=by
    have hr4:w2.heap[w.heap.size]? =some (.cells zeroC 36 (0,0)):=(hb02.block _ hlt).trans HR.out;have hba:Below w2.heap.size w2 (w2.alloc (.cells #[.string sc1,.string us1,.string pa1,.bool hh1,.string hs1,.int .i64 pr1,.bool op1,.slice a1 n1 c1,.bool hq1,.bool hf1,.string qr1,.string fr1] 36)):=(Below.refl _ _).alloc (Nat.le_refl _) _;have hbw:Below w.heap.size w w2:=hbW.trans (hb02.mono hbW.size);exact⟨heap_new _ _,⟨_,(hba.block _ (row_lt hr4)).trans hr4,rfl⟩,hbw.trans (hba.mono hbw.size),hv1.below hba⟩
   have hne:w.heap.size≠w2.heap.size:=by have:=hb02.size;omega
   have HCode:=Ih hcode;have Hgo:=Ih hgo;clear hcode hgo hv1 hres
   go_upto_region 8 with fail
   generalize w2.alloc (.cells #[.string sc1,.string us1,.string pa1,.bool hh1,.string hs1,.int .i64 pr1,.bool op1,.slice a1 n1 c1,.bool hq1,.bool hf1,.string qr1,.string fr1] 36)=V at hP⊢;generalize hr8:w2.heap.size=r8 at hP hne⊢;have hPd:=hP.drew;have cC:Hid (∀V,P8 w.heap.size r8 #[.string sc1,.string us1,.string pa1,.bool hh1,.string hs1,.int .i64 pr1,.bool op1,.slice a1 n1 c1,.bool hq1,.bool hf1,.string qr1,.string fr1] u w V->Calls Tryz.prog 46 #[v2] V fun e w'=>e=.returned (.int .i64 n)/\P8 w.heap.size r8 #[.string sc1,.string us1,.string pa1,.bool hh1,.string hs1,.int .i64 pr1,.bool op1,.slice a1 n1 c1,.bool hq1,.bool hf1,.string qr1,.string fr1] u w w'):=Ih (fun V hV=>(HCode.out V).mono fun e w' ⟨h1,h2⟩=>⟨h1,hV.call h2⟩);have HP:=Ih hP;have hone:(#[.string sc1,.string us1,.string pa1,.bool hh1,.string hs1,.int .i64 pr1,.bool op1,.slice a1 n1 c1,.bool hq1,.bool hf1,.string qr1,.string fr1]:Array Value).all (·.oneCell')=true:=by simp[Value.oneCell']
   clear hr8 HCode hP;refine wp_region_held_drew (S:=P8 w.heap.size r8 #[.string sc1,.string us1,.string pa1,.bool hh1,.string hs1,.int .i64 pr1,.bool op1,.slice a1 n1 c1,.bool hq1,.bool hf1,.string qr1,.string fr1] u w) (by kernel_rfl) hPd (fun hHeld=>?_);refine wpAnyH_take (i:=0) (oi:=({dst:=some 41,op:=Op.load 36 (Operand.tmp 8),type:=36,pos:= "urls.go:378",after:= #[],guard:=none}:Oper)) (v:=.agg #[.string sc1,.string us1,.string pa1,.bool hh1,.string hs1,.int .i64 pr1,.bool op1,.slice a1 n1 c1,.bool hq1,.bool hf1,.string qr1,.string fr1]) rfl (by kernel_rfl) (by kernel_rfl) (by kernel_rfl) (fun _ _ _ h=>h) (Or.inl ⟨by rfl,?_⟩) (by assumption) ?_
   ·exact fun W hW=>exec_load_url (.tmp 8) rfl r8 rfl _ (0,0) (P8.row8 hW) rfl
   (try simp only[Act.put,List.setIfInBounds_toArray,List.set_cons_zero,List.set_cons_succ])
   refine wpAnyH_take (i:=1) (oi:=({dst:=some 42,op:=Op.move (Operand.tmp 9),type:=57,pos:= "urls.go:378",after:= #[],guard:=none}:Oper)) (v:=v2) rfl (by kernel_rfl) (by kernel_rfl) (by kernel_rfl) (fun _ _ _ h=>h) (Or.inl ⟨by rfl,?_⟩) (by assumption) ?_
   ·intro W hSw;go_simp
    try with_reducible rfl
   (try simp only[Act.put,List.setIfInBounds_toArray,List.set_cons_zero,List.set_cons_succ])
   refine wpAnyH_ready (rs:=[2]) (by kernel_rfl) (by simp) ?_;refine AllReadyH.cons rfl (fun K hK=>?_) AllReadyH.nil;go_simp
   go_at_call 46
   refine(cC.out _ (by assumption)).mono ?_;rintro e w4 ⟨rfl,hP4⟩;refine hK.out _ _ hP4 (fun hHeld=>?_);clear hK K
   (try simp only[Act.put,List.setIfInBounds_toArray,List.set_cons_zero,List.set_cons_succ])
   refine wpAnyH_ready (rs:=[3]) (by kernel_rfl) (by simp) ?_;refine AllReadyH.cons rfl (fun K hK=>?_) AllReadyH.nil;rw[if_pos (by rfl)];refine P8.store (r4:=w.heap.size) (r8:=r8) (C8:= #[.string sc1,.string us1,.string pa1,.bool hh1,.string hs1,.int .i64 pr1,.bool op1,.slice a1 n1 c1,.bool hq1,.bool hf1,.string qr1,.string fr1]) (u:=u) (W0:=w) ?h0 hne rfl hone (.tmp 4) (.tmp 41) rfl rfl rfl ?h1
   case h0=>assumption
   rintro⟨hP9,hr9⟩;refine hK.out _ _ hP9 (fun hHeld=>?_);clear hK K
   (try simp only[Act.put,List.setIfInBounds_toArray])
   refine wpAnyH_take (i:=4) (oi:=({dst:=some 5,op:=Op.assign (Operand.tmp 43),type:=37,pos:= "urls.go:378",after:= #[{on:=2,ground:=Ground.data},{on:=3,ground:=Ground.chain},{on:=0,ground:=Ground.phase},{on:=1,ground:=Ground.phase},{on:=2,ground:=Ground.phase},{on:=3,ground:=Ground.phase}],guard:=none}:Oper)) (v:=.int .i64 n) rfl (by kernel_rfl) (by kernel_rfl) (by kernel_rfl) (fun _ _ _ h=>h) (Or.inl ⟨by rfl,?_⟩) (by assumption) ?_
   ·intro W hSw;go_simp
    try with_reducible rfl
   (try simp only[Act.put])
   refine wpAnyH_done (by kernel_rfl) ?_ _
   go_wp2_with fail
   refine bodyPost_ret (results_row2 (P:=Tryz.prog) (u:=5) rfl _ _ w.heap.size 36 _ (0,0) _ rfl hr9 Tryz.underlying36 rfl urlSize) rfl ?_;refine⟨_,_,rfl,hP9.below,?_⟩;rcases Hgo.out with⟨u',h1,rfl,rfl⟩|⟨k,h1,rfl,rfl⟩
   ·rw[h1];exact⟨rfl,hP9.own⟩
   ·rw[h1];exact⟨rfl,hP9.own⟩
end Go.Proofs.YtjhccadmmnjpeaaGreatDoor
