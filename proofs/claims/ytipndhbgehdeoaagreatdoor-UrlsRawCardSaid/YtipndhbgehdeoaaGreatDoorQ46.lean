/-
  lazaretref08.Parse.
-/
import Derived.Test.YtipndhbgehdeoaaGreatDoorQ45
set_option maxHeartbeats 8000000
set_option maxRecDepth 100000
namespace Go.Proofs.YtipndhbgehdeoaaGreatDoor
open Go.RowKit
def x00:MkV:=⟨⟨#[]⟩,⟨#[]⟩,⟨#[]⟩,false,⟨#[]⟩,-1,false,.slice none 0 0,[],false,false,⟨#[]⟩,⟨#[]⟩⟩
theorem three_push (h:Array Obj) (a b c:Obj):(((h.push a).push b).push c)[h.size]? =some a/\(((h.push a).push b).push c)[h.size+1]? =some b/\(((h.push a).push b).push c)[h.size+1+1]? =some c:=by
 refine⟨?_,?_,?_⟩
 ·rw[Array.getElem?_push,if_neg (by simp;omega),Array.getElem?_push,if_neg (by simp),Array.getElem?_push,if_pos rfl]
 ·rw[Array.getElem?_push,if_neg (by simp),Array.getElem?_push,if_pos (by simp)]
 ·rw[Array.getElem?_push,if_pos (by simp)]
theorem run08_any (s:ByteArray) (bv:Value) (b:Option Lz.UrlL) (w:World) (hs:s.size<=25000) (hB:BaseAt w.heap.size w bv b) (hf:∀x,b=some x->Lz.NU x/\x.path.length<=1000000) (hE:EnvH w):
  Calls Tryz.prog 19 #[.string s,bv] w (RParse (Lz.startD b s.data.toList) w):=by
 have HX:Hid (RX.Ok ⟨s,bv,b,Lz.startD b s.data.toList,w,w.heap.size,w.heap.size+1,w.heap.size+1+1⟩):=Ih ⟨hs,hB,hf,hE,rfl,Nat.lt_succ_self _,Nat.lt_succ_self _⟩;clear hB hf hE;go_enter Tryz.func19,Tryz.ntmps19
 go_upto_region 3 with fail
 go_wp2_with fail
 refine wp_mono (loop_ok ⟨s,bv,b,Lz.startD b s.data.toList,w,w.heap.size,w.heap.size+1,w.heap.size+1+1⟩ HX.out (Lz.muM s.data.toList 0 .start) _ _ ?_) ?_
 ·refine⟨.start,⟨#[]⟩,false,false,false,0,x00,_,_,_,_,_,_,_,rfl,rfl,?_,opq_no (by nofun),⟨Nat.zero_le _,rfl,rfl,rfl⟩,rfl⟩;have hb:=(((Below.refl w.heap.size w).alloc (Nat.le_refl _) (.cells zeroC 25)).alloc (by simp) (.cells x00.cells 25)).alloc (by simp;omega) (.cells zeroC 25);obtain⟨h1,h2,h3⟩:=three_push w.heap (.cells zeroC 25) (.cells x00.cells 25) (.cells zeroC 25);exact⟨hb,h1,h2,h3,PathOwn.nil _ _⟩
 ·intro e a' w' h
  match e,h with
  | .ret,h=>
    obtain⟨a0,a1,a2,a3,m,C,l,hl,rfl,hb,hr,hC,hp⟩:=h;refine bodyPost_ret (results_row2 (P:=Tryz.prog) (u:=5) rfl _ _ w.heap.size 25 C (0,0) _ (by simp) hr Tryz.underlying25 rfl (by rw[hC];exact urlSize)) rfl ?_;exact⟨_,m,by simp,hb,hp⟩
attribute [local go_sem ↓] Go.wp_at_zero Go.wp_at_succ
theorem Parse08_any (b:Option Lz.UrlL) (bv:Value) (s:ByteArray) (w:World) (hE:EnvU w) (hbv:BaseAt w.heap.size w bv b) (hB:∀y,b=some y->TextOk y) (hB2:∀y,b=some y->(Lz.textU y).length<=25000):Calls Tryz.prog 7 #[.string s,bv] w (RParse (Lz.parseU s.data.toList b) w):=by
 obtain⟨W,hW⟩:∃W,W=w.alloc (.cells zeroC 25):=⟨_,rfl⟩;have hbW:Below w.heap.size w W:=by rw[hW];exact(Below.refl _ w).alloc (Nat.le_refl _) _
 have hR:W.heap[w.heap.size]? =some (.cells zeroC 25 (0,0)):=by rw[hW];exact heap_new _ _
 have hEW:=hE.below hbW;have hlt:=row_lt hR;have hbvW:BaseAt W.heap.size W bv b:=(hbv.at hbW).mono (by omega);obtain⟨goal,hg⟩:∃goal,goal=Lz.parseU s.data.toList b:=⟨_,rfl⟩;rw[<-hg];have HG:=Ih hg;have HW:=Ih hW;have HR:=Ih hR;clear hg hW hR hE;by_cases hlen:4000<s.size
 ·have hlenI:(4000:Int)<(s.size:Int):=by omega
  have HG2:Hid (goal=.er 3):=by
   show _=_;rw[HG.out];unfold Lz.parseU;rw[if_pos (by rw[len_of_size];exact hlen)]
  clear hlen;go_enter Tryz.func7,Tryz.ntmps7
  go_wp2_with (first |rw[<-HW.out]|(refine wpList_store_row rfl 25 (.tmp 4) (.tmp 11) rfl w.heap.size zeroC rfl rfl 25 _ HR.out urlSize rfl (by simp[Value.oneCell']) ?_))
  refine bodyPost_ret (results_row2 (P:=Tryz.prog) (u:=5) rfl _ _ w.heap.size 25 _ (0,0) _ rfl (setRow_heap _ _ _ _ _ _ HR.out) Tryz.underlying25 rfl urlSize) rfl ?_;refine⟨_,_,rfl,below_setRow hbW (Nat.le_refl _),?_⟩;rw[HG2.out];exact⟨rfl,zero_own _⟩
 ·have hlenI:¬(4000:Int)<(s.size:Int):=by omega
  have hsz:s.size<=4000:=by omega
  have hsl:s.data.toList.length<=4000:=by rw[len_of_size];exact hsz
  clear hlen;go_enter Tryz.func7,Tryz.ntmps7
  go_upto_region 3 with(rw[<-HW.out])
  go_cut [13] (fun s wx=>s=.bool b.isSome/\W=wx)
  case first=>
   cases b with
   | none=>
     obtain rfl:bv=.pointer none:=hbvW
     go_wp2_with fail
     go_meet;exact⟨rfl,rfl⟩
   | some y=>
     obtain⟨p,fr,sch,usr,pas,hh,hst,prt,opq,a,c,xs,hq,hf,qry,frg,rfl,_⟩:=hbvW
     go_wp2_with fail
     go_meet;exact⟨rfl,rfl⟩
  case rest=>
  obtain⟨rfl,rfl⟩:=hcut
  go_upto_if 13 with fail
  go_cut [] (fun wx=>Below W.heap.size W wx/\Hid (goal=Lz.readU s.data.toList b)/\Hid (∀y,b=some y->Lz.readU (Lz.textU y) none=.ok y))
  case first=>
   cases b with
   | none=>
     obtain rfl:bv=.pointer none:=hbvW;have HG3:Hid (goal=Lz.readU s.data.toList none):=Ih (HG.out.trans (parse_none hsl));clear HG
     go_wp2_with fail
     go_meet;exact⟨Below.refl _ _,HG3,Ih (fun y hy=>by cases hy)⟩
   | some y=>
     obtain⟨yh,yp,y0,y1,yt⟩:=hB y rfl;obtain⟨p,fr,sch,usr,pas,hh,hst,prt,opq,a,c,xs,hq,hf,qry,frg,rfl,hp,hrow,hu,hx⟩:=hbvW
     have hyv:UrlVal W (.agg #[.string sch,.string usr,.string pas,.bool hh,.string hst,.int .i64 prt,.bool opq,.slice a xs.length c,.bool hq,.bool hf,.string qry,.string frg]) y:=
      ⟨⟨sch,usr,pas,hh,hst,prt,opq,.slice a xs.length c,xs,hq,hf,qry,frg⟩,rfl,⟨a,c,xs,rfl,rfl,hx⟩,Ih hu.symm⟩
     have cT:=Ih (Text08_any _ y W hyv hEW.h y0 y1 yh (by omega) yp);have Hrow:=Ih hrow;have Hyv:=Ih hyv;clear hrow hu hx hyv hbv
     go_wp2_with (refine wpList_load_row rfl 25 (.tmp 16) rfl p rfl 25 _ fr _ Hrow.out Tryz.underlying25 rfl urlSize ?_)
     refine cT.out.mono ?_;rintro e w1 ⟨t,rfl,ht,hb1⟩;have htz:t.size<=25000:=by rw[<-len_of_size,ht.out];exact hB2 y rfl
     have cC:=Ih (clean08_any t (by omega) w1);clear cT
     go_wp2_with fail
     refine cC.out.mono ?_;rintro e w1b ⟨t2,rfl,ht2,hb1b⟩
     have htz2:t2.size<=25000:=by
      have:=Lz.clean_len t.data.toList;rw[<-ht2.out,len_of_size,len_of_size]at this;omega
     have cR:=Ih (run08_any t2 (.pointer none) none w1b htz2 rfl (fun y hy=>by cases hy) ((hEW.h.below hb1).below hb1b));rw[ht2.out,<-Lz.readU_start,ht.out]at cR;have hb1:=below_call hb1 hb1b;obtain⟨rT,hrT⟩:∃rT,rT=Lz.readU (Lz.textU y) none:=⟨_,rfl⟩;rw[<-hrT]at cR;have HRT:=Ih hrT;clear hrT cC
     go_wp2_with fail
     refine cR.out.mono ?_;rintro e w2 ⟨v1,n2,rfl,hb2,hres⟩;have hb02:=below_call hb1 hb2;clear cR;cases rT with
     | er n=>
       obtain⟨rfl,hv1⟩:=hres
       have hn0:((n:Int) != 0)=true:=by
        have:=Lz.readU_err HRT.out.symm;rw[bne,beq_eq_false_iff_ne.2 (by omega)];rfl
       obtain⟨sc1,us1,pa1,hh1,hs1,pr1,op1,a1,n1,c1,hq1,hf1,qr1,fr1,rfl⟩:=hv1.form
       have HG4:Hid (goal=.er 2):=by
        show _=_;rw[HG.out,parse_some hsl,<-HRT.out,if_neg (by simp)]
       have hbV:Below w.heap.size w (w2.alloc (.cells #[.string sc1,.string us1,.string pa1,.bool hh1,.string hs1,.int .i64 pr1,.bool op1,.slice a1 n1 c1,.bool hq1,.bool hf1,.string qr1,.string fr1] 25)):=(hbW.trans (hb02.mono hbW.size)).alloc (Nat.le_trans hbW.size hb02.size) _
       have hRV:(w2.alloc (.cells #[.string sc1,.string us1,.string pa1,.bool hh1,.string hs1,.int .i64 pr1,.bool op1,.slice a1 n1 c1,.bool hq1,.bool hf1,.string qr1,.string fr1] 25)).heap[w.heap.size]? =some (.cells zeroC 25 (0,0)):=by
        rw[Below.heap_alloc _ _ _ (Nat.lt_of_lt_of_le hlt hb02.size)];exact(hb02.block _ hlt).trans HR.out
       clear HG HRT hv1
       go_upto_region 5 with fail
       generalize w2.alloc (.cells #[.string sc1,.string us1,.string pa1,.bool hh1,.string hs1,.int .i64 pr1,.bool op1,.slice a1 n1 c1,.bool hq1,.bool hf1,.string qr1,.string fr1] 25)=V at hbV hRV⊢
       go_quiet (fail)
       have hbq:Below w.heap.size w (V.drewN nq):=below_drewN hbV nq;have hRq:(V.drewN nq).heap[w.heap.size]? =some (.cells zeroC 25 (0,0)):=hRV;generalize V.drewN nq=V2 at hbq hRq⊢
       go_wp2_with (refine wpList_store_row rfl 25 (.tmp 4) (.tmp 33) rfl w.heap.size zeroC rfl rfl 25 _ hRq urlSize rfl (by simp[Value.oneCell']) ?_)
       refine bodyPost_ret (results_row2 (P:=Tryz.prog) (u:=5) rfl _ _ w.heap.size 25 _ (0,0) _ rfl (setRow_heap _ _ _ _ _ _ hRq) Tryz.underlying25 rfl urlSize) rfl ?_;refine⟨_,_,rfl,below_setRow hbq (Nat.le_refl _),?_⟩;rw[HG4.out];exact⟨rfl,zero_own _⟩
     | ok x=>
       obtain⟨rfl,hv1⟩:=hres;obtain⟨sc1,us1,pa1,hh1,hs1,pr1,op1,a1,n1,c1,hq1,hf1,qr1,fr1,rfl⟩:=hv1.form
       have hxl:x.path.length<=1000000000:=by
        have h1:=Lz.readU_len HRT.out.symm (fun _ h=>by cases h);have h2:=Lz.path_wq x;have h3:Lz.bq none=0:=rfl;omega
       have hP:P5 w2.heap.size p #[.string sc1,.string us1,.string pa1,.bool hh1,.string hs1,.int .i64 pr1,.bool op1,.slice a1 n1 c1,.bool hq1,.bool hf1,.string qr1,.string fr1] #[.string sch,.string usr,.string pas,.bool hh,.string hst,.int .i64 prt,.bool opq,.slice a xs.length c,.bool hq,.bool hf,.string qry,.string frg] fr x y w2 (w2.alloc (.cells #[.string sc1,.string us1,.string pa1,.bool hh1,.string hs1,.int .i64 pr1,.bool op1,.slice a1 n1 c1,.bool hq1,.bool hf1,.string qr1,.string fr1] 25)):=by
        have hrp:w2.heap[p]? =some (.cells #[.string sch,.string usr,.string pas,.bool hh,.string hst,.int .i64 prt,.bool opq,.slice a xs.length c,.bool hq,.bool hf,.string qry,.string frg] 25 fr):=(hb02.block _ hp).trans Hrow.out;have hba:Below w2.heap.size w2 (w2.alloc (.cells #[.string sc1,.string us1,.string pa1,.bool hh1,.string hs1,.int .i64 pr1,.bool op1,.slice a1 n1 c1,.bool hq1,.bool hf1,.string qr1,.string fr1] 25)):=(Below.refl _ _).alloc (Nat.le_refl _) _;exact⟨heap_new _ _,(hba.block _ (row_lt hrp)).trans hrp,hba,hv1.val.below hba,(Hyv.out.below hb02).below hba⟩
       obtain⟨q,hq0⟩:∃q,q=decide (x=y):=⟨_,rfl⟩;have HQ:=Ih hq0;have cS:Hid (∀r6 V,P5 r6 p #[.string sc1,.string us1,.string pa1,.bool hh1,.string hs1,.int .i64 pr1,.bool op1,.slice a1 n1 c1,.bool hq1,.bool hf1,.string qr1,.string fr1] #[.string sch,.string usr,.string pas,.bool hh,.string hst,.int .i64 prt,.bool opq,.slice a xs.length c,.bool hq,.bool hf,.string qry,.string frg] fr x y w2 V->Calls Tryz.prog 21 #[.agg #[.string sc1,.string us1,.string pa1,.bool hh1,.string hs1,.int .i64 pr1,.bool op1,.slice a1 n1 c1,.bool hq1,.bool hf1,.string qr1,.string fr1],.agg #[.string sch,.string usr,.string pas,.bool hh,.string hst,.int .i64 prt,.bool opq,.slice a xs.length c,.bool hq,.bool hf,.string qry,.string frg]] V fun e w'=>e=.returned (.bool q)/\P5 r6 p #[.string sc1,.string us1,.string pa1,.bool hh1,.string hs1,.int .i64 pr1,.bool op1,.slice a1 n1 c1,.bool hq1,.bool hf1,.string qr1,.string fr1] #[.string sch,.string usr,.string pas,.bool hh,.string hst,.int .i64 prt,.bool opq,.slice a xs.length c,.bool hq,.bool hf,.string qry,.string frg] fr x y w2 w'):=Ih (fun r6 V hV=>(refSame_any _ _ x y V hV.val6 hV.valp hxl).mono fun e w' ⟨h1,h2⟩=>⟨by rw[h1,hq0],hV.call h2⟩)
       clear hq0 hv1
       go_upto_region 5 with fail
       generalize w2.alloc (.cells #[.string sc1,.string us1,.string pa1,.bool hh1,.string hs1,.int .i64 pr1,.bool op1,.slice a1 n1 c1,.bool hq1,.bool hf1,.string qr1,.string fr1] 25)=V at hP⊢;generalize hr6:w2.heap.size=r6 at hP⊢;have hPd:=hP.drew;have cS6:=Ih (cS.out r6);have HP:=Ih hP;clear hr6 cS hP
       go_cut [32] (fun s wx=>s=.bool (!q)/\P5 r6 p #[.string sc1,.string us1,.string pa1,.bool hh1,.string hs1,.int .i64 pr1,.bool op1,.slice a1 n1 c1,.bool hq1,.bool hf1,.string qr1,.string fr1] #[.string sch,.string usr,.string pas,.bool hh,.string hst,.int .i64 prt,.bool opq,.slice a xs.length c,.bool hq,.bool hf,.string qry,.string frg] fr x y w2 wx)
       case first=>
        go_region_held3 (fun V=>(V.cell? ⟨r6,0,none⟩=some (.string sc1)/\V.cell? ⟨r6,1,none⟩=some (.string us1)/\V.cell? ⟨r6,2,none⟩=some (.string pa1)/\V.cell? ⟨r6,3,none⟩=some (.bool hh1)/\V.cell? ⟨r6,4,none⟩=some (.string hs1)/\V.cell? ⟨r6,5,none⟩=some (.int .i64 pr1)/\V.cell? ⟨r6,6,none⟩=some (.bool op1)/\V.cell? ⟨r6,7,none⟩=some (.slice a1 n1 c1)/\V.cell? ⟨r6,8,none⟩=some (.bool hq1)/\V.cell? ⟨r6,9,none⟩=some (.bool hf1)/\V.cell? ⟨r6,10,none⟩=some (.string qr1)/\V.cell? ⟨r6,11,none⟩=some (.string fr1))/\(V.cell? ⟨p,0,none⟩=some (.string sch)/\V.cell? ⟨p,1,none⟩=some (.string usr)/\V.cell? ⟨p,2,none⟩=some (.string pas)/\V.cell? ⟨p,3,none⟩=some (.bool hh)/\V.cell? ⟨p,4,none⟩=some (.string hst)/\V.cell? ⟨p,5,none⟩=some (.int .i64 prt)/\V.cell? ⟨p,6,none⟩=some (.bool opq)/\V.cell? ⟨p,7,none⟩=some (.slice a xs.length c)/\V.cell? ⟨p,8,none⟩=some (.bool hq)/\V.cell? ⟨p,9,none⟩=some (.bool hf)/\V.cell? ⟨p,10,none⟩=some (.string qry)/\V.cell? ⟨p,11,none⟩=some (.string frg))/\P5 r6 p #[.string sc1,.string us1,.string pa1,.bool hh1,.string hs1,.int .i64 pr1,.bool op1,.slice a1 n1 c1,.bool hq1,.bool hf1,.string qr1,.string fr1] #[.string sch,.string usr,.string pas,.bool hh,.string hst,.int .i64 prt,.bool opq,.slice a xs.length c,.bool hq,.bool hf,.string qry,.string frg] fr x y w2 V) (first |exact⟨row12 (P5.row6 (by assumption)),row12 (P5.rowp (by assumption)),by assumption⟩) (first |(go_at_call 21;refine(cS6.out _ (by assumption)).mono ?_;rintro e w4 ⟨rfl,hP4⟩))
        go_wp2_with fail
        go_meet;exact⟨rfl,by assumption⟩
       case rest=>
       obtain⟨rfl,hP4⟩:=hcut;cases q with
       | true=>
         have hxy:x=y:=of_decide_eq_true HQ.out.symm
         have HG3:Hid (goal=Lz.readU s.data.toList (some y)):=by
          show _=_;rw[HG.out,parse_some hsl,<-HRT.out,if_pos (by rw[hxy])]
         have HF:Hid (∀y',some y=some y'->Lz.readU (Lz.textU y') none=.ok y'):=Ih (fun y' e=>by injection e with e;subst e;rw[<-HRT.out,hxy]);have hb4:=below_call hb02 hP4.below;clear HQ HG hxy
         go_wp2_with fail
         go_meet;exact⟨hb4,HG3,HF⟩
       | false=>
         have HG4:Hid (goal=.er 2):=by
          show _=_;rw[HG.out,parse_some hsl,<-HRT.out,if_neg (fun e=>by injection e with e;exact of_decide_eq_false HQ.out.symm e)]
         have hb4:=below_call hb02 hP4.below;have hbq:Below w.heap.size w wc:=hbW.trans (hb4.mono hbW.size);have hRq:wc.heap[w.heap.size]? =some (.cells zeroC 25 (0,0)):=(hb4.block _ hlt).trans HR.out;clear HQ HG
         go_wp2_with (refine wpList_store_row rfl 25 (.tmp 4) (.tmp 33) rfl w.heap.size zeroC rfl rfl 25 _ hRq urlSize rfl (by simp[Value.oneCell']) ?_)
         refine bodyPost_ret (results_row2 (P:=Tryz.prog) (u:=5) rfl _ _ w.heap.size 25 _ (0,0) _ rfl (setRow_heap _ _ _ _ _ _ hRq) Tryz.underlying25 rfl urlSize) rfl ?_;refine⟨_,_,rfl,below_setRow hbq (Nat.le_refl _),?_⟩;rw[HG4.out];exact⟨rfl,zero_own _⟩
  case rest=>
   obtain⟨hbc,HG3,HF⟩:=hcut
   have hN:∀y,b=some y->Lz.NU y/\y.path.length<=1000000:=fun y hy=>by
    have h1:=HF.out y hy;have h2:=hB2 y hy;have h3:=Lz.readU_len h1 (fun _ h=>by cases h);have h4:Lz.bq none=0:=rfl;have h5:=Lz.path_wq y;exact⟨Lz.readU_form h1 (fun _ h=>by cases h),by omega⟩
   have cC:=Ih (clean08_any s (by omega) wc);have HN:=Ih hN;clear hN HF HG hB hB2
   go_wp2_with fail
   refine cC.out.mono ?_;rintro e w2 ⟨t2,rfl,ht2,hb2⟩
   have htz2:t2.size<=25000:=by
    have:=Lz.clean_len s.data.toList;rw[<-ht2.out,len_of_size,len_of_size]at this;omega
   have hbc2:=below_call hbc hb2;have cR:=Ih (run08_any t2 bv b w2 htz2 ((hbvW.at hbc2).mono hbc2.size) HN.out (hEW.h.below hbc2));rw[ht2.out,<-Lz.readU_start,<-HG3.out]at cR;clear HG3 HN hbv hbvW cC ht2 htz2
   go_wp2_with fail
   refine cR.out.mono ?_;rintro e w3 ⟨v1,n,rfl,hb3,hres⟩;have hb03:=below_call hbc2 hb3
   obtain⟨u,hv1⟩:∃u,UrlOwn w3 v1 u:=by
    cases goal with
    | ok u'=>exact⟨_,hres.2⟩
    | er k=>exact⟨_,hres.2⟩
   obtain⟨sc1,us1,pa1,hh1,hs1,pr1,op1,a1,n1,c1,hq1,hf1,qr1,fr1,rfl⟩:=hv1.form;have hR3:w3.heap[w.heap.size]? =some (.cells zeroC 25 (0,0)):=(hb03.block _ hlt).trans HR.out;clear cR hv1
   go_wp2_with (refine wpList_store_row rfl 25 (.tmp 4) (.tmp 38) rfl w.heap.size #[.string sc1,.string us1,.string pa1,.bool hh1,.string hs1,.int .i64 pr1,.bool op1,.slice a1 n1 c1,.bool hq1,.bool hf1,.string qr1,.string fr1] rfl rfl 25 _ hR3 urlSize rfl (by simp[Value.oneCell']) ?_)
   refine bodyPost_ret (results_row2 (P:=Tryz.prog) (u:=5) rfl _ _ w.heap.size 25 _ (0,0) _ rfl (setRow_heap _ _ _ _ _ _ hR3) Tryz.underlying25 rfl urlSize) rfl ?_;refine⟨_,_,rfl,below_setRow (hbW.trans (hb03.mono hbW.size)) (Nat.le_refl _),?_⟩;cases goal with
   | ok u'=>exact⟨hres.1,hres.2.setRow hR3 _⟩
   | er k=>exact⟨hres.1,hres.2.setRow hR3 _⟩
end Go.Proofs.YtipndhbgehdeoaaGreatDoor
