/-
  Package urls: main.
-/
import Derived.Test.YtjhccadmmnjpeaaGreatDoorT27
import Derived.Test.YtjhccadmmnjpeaaGreatDoorT28
set_option maxHeartbeats 4000000
set_option maxRecDepth 100000
namespace Go.Proofs.YtjhccadmmnjpeaaGreatDoor
open Go.RowKit
theorem same_text (s t:ByteArray):(s.toList==t.toList)=decide (s.data.toList=t.data.toList):=by
 rw[Lib.toList_data,Lib.toList_data,Bool.eq_iff_iff];simp
theorem mk_opq {B M:Nat} {w w1:World} {u:Lz.UrlL} (hm:MkIs B M w1 u) (hb:Below B w w1) (q:Bool):
  Below B w (w1.setCell ⟨M,6,none⟩ (.bool q))/\MkIs B M (w1.setCell ⟨M,6,none⟩ (.bool q)) {u with opq:=q}:=by
 obtain⟨sch,usr,pas,hh,hst,prt,opq,a,c,ys,hq,hf,qry,frg,hk,rfl,hc,hcells⟩:=hm.form;exact⟨hb.setCell (p:=⟨M,6,none⟩) hk.le _,_,mk_set hk 6 (.bool q) ⟨sch,usr,pas,hh,hst,prt,q,.slice a ys.length c,ys,hq,hf,qry,frg⟩ (Lz.specP sch.data.toList) (slashB (Lz.specP sch.data.toList)) (by simp) (fun _ h=>h),Ih rfl⟩
def spcU (u:Lz.UrlL) (a r:List UInt8):Option Lz.UrlL->Lz.UR
 | some x=>if x.scheme=a/\Lib.hasPrefix r [47,47]=false then Lz.relU u x r else Lz.hostedU u (r.drop (Lz.leadS true r))
 | none=>Lz.hostedU u (r.drop (Lz.leadS true r))
def plnU (u:Lz.UrlL) (r:List UInt8):Lz.UR:=
 if Lib.hasPrefix r [47,47]then Lz.hostedU u (r.drop 2)
 else if Lib.hasPrefix r [47]then .ok (Lz.onP u (r.drop 1))
 else .ok {u with opq:=true,path:=[Lz.encodeP [] r]}
def okU (u:Lz.UrlL) (a r:List UInt8) (b:Option Lz.UrlL):Lz.UR:=if a=Lz.fileS then Lz.filesU u b r else if Lz.specP a then spcU u a r b else plnU u r
theorem mainU_ok (u:Lz.UrlL) (s:List UInt8) (b:Option Lz.UrlL) {a r:List UInt8} (h:Lz.schemedP s=(a,r,true)):Lz.mainU u s b=okU {u with scheme:=a} a r b:=by
 unfold Lz.mainU okU plnU;rw[h];cases b<;>rfl
theorem mainU_no (u:Lz.UrlL) (s:List UInt8) (b:Option Lz.UrlL) (h:(Lz.schemedP s).2.2=false):Lz.mainU u s b=match b with
  | none=>.er 82
  | some x=>if x.opq&&(!s.isEmpty||u.hasQuery|| !u.hasFragment)then .er 82
    else if x.opq then .ok (Lz.pathU {u with scheme:=x.scheme,opq:=true} x [])
    else if x.scheme=Lz.fileS then Lz.filesU {u with scheme:=x.scheme} b s
    else Lz.relU {u with scheme:=x.scheme} x s:=by
 unfold Lz.mainU;simp only[h];cases b<;>rfl
theorem schemedP_no {s:List UInt8} (h:(Lz.schemedP s).2.2=false):Lz.schemedP s=([],s,false):=by
 rw[schemed_eq]at h⊢;split
 ·rename_i h2;rw[if_pos h2]at h;cases h
 ·rfl
theorem hasPrefix_le {s p:List UInt8} (h:Lib.hasPrefix s p=true):p.length<=s.length:=(List.isPrefixOf_iff_prefix.1 h).length_le
theorem mainM_any (B M:Nat) (x:MkV) (u:Lz.UrlL) (hx:x.url=u) (b:Option Lz.UrlL) (bv:Value) (s:ByteArray) (hs:s.size<=800000) (w:World) (hE:EnvH w) (hm:MkAt B M w x false ⟨#[]⟩) (hB:B<=w.heap.size) (hBg:13<=B) (hbv:BaseAt B w bv b) (hL:∀y,b=some y->y.path.length<=30000000) (hL2:u.path.length<=30000000):
  Calls Tryz.prog 69 #[.pointer (some ⟨M,0,none⟩),.string s,bv] w (RMkE B M (Lz.mainU u s.data.toList b) w):=by
 obtain⟨goal,hgoal⟩:∃goal,goal=Lz.mainU u s.data.toList b:=⟨_,rfl⟩;rw[<-hgoal];have cS:=schemedU_any s (by omega) w hE;have hscl:(Lz.schemedP s.data.toList).2.2=true->(Lz.schemedP s.data.toList).1.length+1+(Lz.schemedP s.data.toList).2.1.length=s.size:=fun h=>by rw[Lz.schemed_len h,len_of_size]
 cases hok:(Lz.schemedP s.data.toList).2.2 with
 | true=>
   obtain⟨al,hal⟩:∃al,al=(Lz.schemedP s.data.toList).1:=⟨_,rfl⟩;obtain⟨rl,hrl⟩:∃rl,rl=(Lz.schemedP s.data.toList).2.1:=⟨_,rfl⟩;have hU:=mainU_ok u s.data.toList b (a:=al) (r:=rl) (by rw[hal,hrl,<-hok]);rw[<-hgoal]at hU;have hlen:=hscl hok;rw[<-hal,<-hrl,hok]at cS;rw[<-hal,<-hrl]at hlen;have CS:=Ih cS;have HU:=Ih hU;have HE:=Ih hE;have HM:=Ih hm;have HBv:=Ih hbv;clear hgoal cS hscl hok hal hrl hU hE hm hbv;go_enter Tryz.func69,Tryz.ntmps69
   go_wp2_with fail
   refine CS.out.mono ?_;rintro e w1 ⟨a,r,rfl,ha,hr,hb1⟩;have har:a.size+1+r.size=s.size:=by rw[<-len_of_size a,<-len_of_size r,ha.out,hr.out];exact hlen
   have HU2:Hid (goal=okU {u with scheme:=a.data.toList} a.data.toList r.data.toList b):=by
    show _=_;rw[HU.out,ha.out,hr.out]
   have cA:=Ih (as_any B M x false ⟨#[]⟩ a w1 (HM.out.below hb1));clear ha hr hlen HU CS
   go_wp2_with fail
   refine cA.out.mono ?_;rintro e w2 ⟨rfl,hb2,hm2⟩;have hb02:Below B w w2:=(hb1.mono hB).trans hb2;have hB2:B<=w2.heap.size:=Nat.le_trans hB hb02.size;have hE2:=HE.out.at hb02 hBg;have hbv2:=HBv.out.at hb02;obtain⟨u2,hu2⟩:∃u2,u2=({u with scheme:=a.data.toList}:Lz.UrlL):=⟨_,rfl⟩;have hmi:MkIs B M w2 u2:=⟨{x with sch:=a},hm2,Ih (by rw[hu2,<-hx];rfl)⟩
   have HU3:Hid (goal=okU u2 a.data.toList r.data.toList b):=by
    show _=_;rw[HU2.out,hu2]
   have hs2:u2.scheme=a.data.toList:=by rw[hu2]
   have hp2:u2.path.length<=30000000:=by rw[hu2];exact hL2
   have Hbv2:=Ih hbv2;clear HU2 hm2 hx hu2 HE HM HBv cA hbv2;by_cases hf:a.data.toList=Lz.fileS
   ·have g0:=text_yes (k:=[102,105,108,101]) hf;have HG:Hid (goal=Lz.filesU u2 b r.data.toList):=by show _=_;rw[HU3.out,okU,if_pos hf]
    have cF:=Ih (filesM_any B M u2 b bv r (by omega) w2 hE2 hmi hB2 hBg Hbv2.out (fun y hy=>by have:=hL y hy;omega) (by omega) (by rw[hs2,hf]));clear HU3 hf
    go_wp2_with fail
    refine cF.out.mono ?_;rintro e w3 ⟨v,rfl,hb3,hres⟩
    go_wp2_with fail
    go_ret;refine⟨_,rfl,hb02.trans hb3,?_⟩;rw[HG.out];exact hres
   ·have g0:=text_no (k:=[102,105,108,101]) hf;obtain⟨sp,hsp⟩:∃sp,sp=Lz.specP a.data.toList:=⟨_,rfl⟩;obtain⟨h12,h13⟩:=mk_sp hmi (sp:=sp) (by rw[hs2];exact hsp)
    have HU4:Hid (goal=if sp then spcU u2 a.data.toList r.data.toList b else plnU u2 r.data.toList):=by
     show _=_;rw[HU3.out,okU,if_neg hf,hsp]
    clear HU3 hf hsp;have cP2:=Ih (fun W=>HasPrefix_c r ⟨#[47,47]⟩ W);obtain⟨p2,hp2'⟩:∃p2,p2=Lib.hasPrefix r.data.toList [47,47]:=⟨_,rfl⟩;rw[show Lib.hasPrefix r.data.toList (⟨#[47,47]⟩:ByteArray).data.toList=p2 from hp2'.symm]at cP2;have Hp2:=Ih hp2';clear hp2';cases sp with
    | true=>
      have HU5:Hid (goal=spcU u2 a.data.toList r.data.toList b):=Ih HU4.out;have hx3:(r.data.toList.drop (Lz.leadS true r.data.toList)).length<=r.size:=by rw[List.length_drop,len_of_size];omega
      have cT:=Ih (TrimLeft_sl r true w2)
      have cH:Hid (∀(W:World) (t:ByteArray),Below w2.heap.size w2 W->Hid (t.data.toList=r.data.toList.drop (Lz.leadS true r.data.toList))->Calls Tryz.prog 107 #[.pointer (some ⟨M,0,none⟩),.string t] W (RMkE B M (Lz.hostedU u2 (r.data.toList.drop (Lz.leadS true r.data.toList))) W)):=Ih (fun W t hW ht=>by
       rw[<-ht.out];have hts:t.size<=r.size:=by rw[<-len_of_size t,ht.out];exact hx3
       exact hostedM_any B M u2 t (by omega) W (hE2.below hW) (hmi.below hW) (Nat.le_trans hB2 hW.size) hBg (by omega))
      cases b with
      | none=>
        have hbn:bv=.pointer none:=Hbv2.out;subst hbn;have HG:Hid (goal=Lz.hostedU u2 (r.data.toList.drop (Lz.leadS true r.data.toList))):=Ih HU5.out;clear HU4 HU5 Hbv2
        go_wp2_with fail
        refine cT.out.mono ?_;rintro e w4 ⟨tb,rfl,htb,hb4⟩;have hb04:=hb02.trans (hb4.mono hB2);have cH2:=Ih (cH.out w4 tb hb4 htb)
        go_wp2_with fail
        refine cH2.out.mono ?_;rintro e w3 ⟨v,rfl,hb3,hres⟩
        go_wp2_with fail
        go_ret;refine⟨_,rfl,hb04.trans hb3,?_⟩;rw[HG.out];exact hres
      | some y=>
        obtain⟨p,fr,sch,usr,pas,hh,hst,prt,opq,a2,c,xs,hq2,hf2,qry,frg,rfl,hpB,hrow,hy,hcells⟩:=Hbv2.out;have d0:=rowAt hrow 0 (.string sch) rfl;have hys:y.scheme=sch.data.toList:=by rw[hy]
        have hK:=base_kept (sch:=sch) (usr:=usr) (pas:=pas) (hh:=hh) (hst:=hst) (prt:=prt) (opq:=opq) (c:=c) (hq:=hq2) (hf:=hf2) (qry:=qry) (frg:=frg) hB2 hcells;rw[<-hy]at hK;have hyL:=hL y rfl;have hst2:=same_text sch a;have cR:=Ih (relM_any B M u2 y _ r (by omega) w2 hE2 hmi hB2 hBg hK (by omega) (by omega))
        have HU6:Hid (goal=if sch.data.toList=a.data.toList/\p2=false then Lz.relU u2 y r.data.toList else Lz.hostedU u2 (r.data.toList.drop (Lz.leadS true r.data.toList))):=by
         show _=_;rw[HU5.out,spcU,hys,Hp2.out]
        clear HU4 HU5 Hbv2 hy hys hcells hK;by_cases hsa:sch.data.toList=a.data.toList
        ·rw[decide_eq_true hsa]at hst2;cases p2 with
         | false=>
           have HG:Hid (goal=Lz.relU u2 y r.data.toList):=by show _=_;rw[HU6.out,if_pos ⟨hsa,rfl⟩]
           clear HU6 hsa
           go_wp2_with fail
           refine(cP2.out _).mono ?_;rintro e w4 ⟨rfl,rfl⟩
           go_wp2_with (refine wpList_load_row rfl 36 (.tmp 122) rfl p rfl 36 _ fr _ hrow Tryz.underlying36 rfl urlSize ?_)
           refine cR.out.mono ?_;rintro e w3 ⟨v,rfl,hb3,hres⟩
           go_wp2_with fail
           go_ret;refine⟨_,rfl,hb02.trans hb3,?_⟩;rw[HG.out];exact hres
         | true=>
           have HG:Hid (goal=Lz.hostedU u2 (r.data.toList.drop (Lz.leadS true r.data.toList))):=by show _=_;rw[HU6.out,if_neg (by simp)]
           clear HU6 hsa
           go_wp2_with fail
           refine(cP2.out _).mono ?_;rintro e w4 ⟨rfl,rfl⟩
           go_wp2_with fail
           refine cT.out.mono ?_;rintro e w4 ⟨tb,rfl,htb,hb4⟩;have hb04:=hb02.trans (hb4.mono hB2);have cH2:=Ih (cH.out w4 tb hb4 htb)
           go_wp2_with fail
           refine cH2.out.mono ?_;rintro e w3 ⟨v,rfl,hb3,hres⟩
           go_wp2_with fail
           go_ret;refine⟨_,rfl,hb04.trans hb3,?_⟩;rw[HG.out];exact hres
        ·rw[decide_eq_false hsa]at hst2;have HG:Hid (goal=Lz.hostedU u2 (r.data.toList.drop (Lz.leadS true r.data.toList))):=by show _=_;rw[HU6.out,if_neg (fun h=>hsa h.1)]
         clear HU6 hsa
         go_wp2_with fail
         refine cT.out.mono ?_;rintro e w4 ⟨tb,rfl,htb,hb4⟩;have hb04:=hb02.trans (hb4.mono hB2);have cH2:=Ih (cH.out w4 tb hb4 htb)
         go_wp2_with fail
         refine cH2.out.mono ?_;rintro e w3 ⟨v,rfl,hb3,hres⟩
         go_wp2_with fail
         go_ret;refine⟨_,rfl,hb04.trans hb3,?_⟩;rw[HG.out];exact hres
    | false=>
      have HU5:Hid (goal=plnU u2 r.data.toList):=Ih HU4.out;clear HU4;cases p2 with
      | true=>
        have h2l:2<=r.size:=by rw[<-len_of_size];exact hasPrefix_le Hp2.out.symm
        have h2I:(2:Int)<=(r.size:Int):=by omega
        have HG:Hid (goal=Lz.hostedU u2 (r.extract 2 r.size).data.toList):=by show _=_;rw[HU5.out,plnU,<-Hp2.out,if_pos rfl,extract_from]
        have cH:=Ih (hostedM_any B M u2 (r.extract 2 r.size) (by have:=extract_size_le' r 2 r.size;omega) w2 hE2 hmi hB2 hBg (by omega));clear HU5
        go_wp2_with fail
        refine(cP2.out _).mono ?_;rintro e w4 ⟨rfl,rfl⟩
        go_wp2_with fail
        refine cH.out.mono ?_;rintro e w3 ⟨v,rfl,hb3,hres⟩
        go_wp2_with fail
        go_ret;refine⟨_,rfl,hb02.trans hb3,?_⟩;rw[HG.out];exact hres
      | false=>
        have cP1:=Ih (fun W=>HasPrefix_c r ⟨#[47]⟩ W);obtain⟨p1,hp1'⟩:∃p1,p1=Lib.hasPrefix r.data.toList [47]:=⟨_,rfl⟩;rw[show Lib.hasPrefix r.data.toList (⟨#[47]⟩:ByteArray).data.toList=p1 from hp1'.symm]at cP1;have Hp1:=Ih hp1';clear hp1';cases p1 with
        | true=>
          have h1l:1<=r.size:=by rw[<-len_of_size];exact hasPrefix_le Hp1.out.symm
          have h1I:(1:Int)<=(r.size:Int):=by omega
          have HG:Hid (goal=.ok (Lz.onP u2 (r.extract 1 r.size).data.toList)):=by show _=_;rw[HU5.out,plnU,<-Hp2.out,if_neg (by simp),<-Hp1.out,if_pos rfl,extract_from]
          have cO:=Ih (on_any B M (r.extract 1 r.size) u2 w2 hE2 hmi hB2 hBg (by have:=extract_size_le' r 1 r.size;omega));clear HU5
          go_wp2_with fail
          refine(cP2.out _).mono ?_;rintro e w4 ⟨rfl,rfl⟩
          go_wp2_with fail
          refine(cP1.out _).mono ?_;rintro e w4 ⟨rfl,rfl⟩
          go_wp2_with fail
          refine cO.out.mono ?_;rintro e w5 ⟨rfl,hb5,hm5⟩
          go_wp2_with fail
          go_ret;refine⟨_,rfl,hb02.trans hb5,?_⟩;rw[HG.out];exact⟨rfl,hm5⟩
        | false=>
          have HG:Hid (goal=.ok {u2 with opq:=true,path:=[Lz.encodeP [] r.data.toList]}):=by show _=_;rw[HU5.out,plnU,<-Hp2.out,if_neg (by simp),<-Hp1.out,if_neg (by simp)]
          obtain⟨v6,c6,f6⟩:=mk_cell hmi 6 (by decide);obtain⟨hb3,hm3⟩:=mk_opq hmi hb02 true;have hB3:B<=(w2.setCell ⟨M,6,none⟩ (.bool true)).heap.size:=Nat.le_trans hB hb3.size;have cE:=Ih (Encode_any 0 (by decide) r (by omega) (w2.setCell ⟨M,6,none⟩ (.bool true)));clear HU5
          go_wp2_with fail
          refine(cP2.out _).mono ?_;rintro e w4 ⟨rfl,rfl⟩
          go_wp2_with fail
          refine(cP1.out _).mono ?_;rintro e w4 ⟨rfl,rfl⟩
          go_wp2_with fail
          refine cE.out.mono ?_;rintro e w5 ⟨eb,rfl,heb,hb5⟩;have hm5:=hm3.below hb5;have hb05:=hb3.trans (hb5.mono hB3);have hB5:B<=w5.heap.size:=Nat.le_trans hB hb05.size;have hba:Below w5.heap.size w5 (w5.alloc (.cells #[.string eb] 9)):=(Below.refl _ _).alloc (Nat.le_refl _) _;obtain⟨hb6,hm6⟩:=mk_path (hm5.below hba) (hb05.trans (hba.mono hB5)) (path_one w5 B eb);obtain⟨v7,c7,f7⟩:=mk_cell (hm5.below hba) 7 (by decide)
          have HF:Hid (MkIs B M ((w5.alloc (.cells #[.string eb] 9)).setCell ⟨M,7,none⟩ (.slice (some ⟨w5.heap.size,0,none⟩) 1 1)) {u2 with opq:=true,path:=[Lz.encodeP [] r.data.toList]}):=by
           have h1:([eb].map (fun x:ByteArray=>x.data.toList))=[Lz.encodeP [] r.data.toList]:=by
            show[eb.data.toList]=_;rw[heb.out];rfl
           rw[h1]at hm6;exact hm6
          have Hb6:=Ih hb6;clear hm6 hb6 hm5 heb hm3
          go_wp2_with fail
          go_ret;refine⟨_,rfl,Hb6.out,?_⟩;rw[HG.out];exact⟨rfl,HF.out⟩
 | false=>
   have hU:=mainU_no u s.data.toList b hok;rw[<-hgoal]at hU;rw[schemedP_no hok]at cS;have CS:=Ih cS;have HE:=Ih hE;clear hgoal cS hscl hok hE;cases b with
   | none=>
     have hbn:bv=.pointer none:=hbv;subst hbn;have HG:Hid (goal=.er 82):=Ih hU;clear hU hm hx;go_enter Tryz.func69,Tryz.ntmps69
     go_wp2_with fail
     refine CS.out.mono ?_;rintro e w1 ⟨a,r,rfl,ha,hr,hb1⟩;have hbB:=hb1.mono hB
     go_wp2_with fail
     go_ret;refine⟨_,rfl,hbB,?_⟩;rw[HG.out];exact⟨_,rfl⟩
   | some y=>
     simp only at hU;have hyL:=hL y rfl;obtain⟨p,fr,sch,usr,pas,hh,hst,prt,opq,a2,c,xs,hq2,hf2,qry,frg,rfl,hpB,hrow,hy,hcells⟩:=hbv;have hys:y.scheme=sch.data.toList:=by rw[hy]
     have hyo:y.opq=opq:=by rw[hy]
     obtain⟨xsch,xusr,xpas,xhh,xhst,xprt,xopq,xpv,xxs,xhq,xhf,xqry,xfrg⟩:=x;have huq:u.hasQuery=xhq:=by rw[<-hx];rfl
     have huf:u.hasFragment=xhf:=by rw[<-hx];rfl
     rw[hys,hyo]at hU;have HU:=Ih hU;have Huq:=Ih huq;have Huf:=Ih huf
     have hrun:Hid (∀(w1:World),Below w.heap.size w w1->Below B w w1/\B<=w1.heap.size/\EnvH w1/\w1.heap[p]? =some (.cells #[.string sch,.string usr,.string pas,.bool hh,.string hst,.int .i64 prt,.bool opq,.slice a2 xs.length c,.bool hq2,.bool hf2,.string qry,.string frg] 36 fr)/\MkAt B M w1 ⟨xsch,xusr,xpas,xhh,xhst,xprt,xopq,xpv,xxs,xhq,xhf,xqry,xfrg⟩ false ⟨#[]⟩):=
      Ih (fun w1 hb=>⟨hb.mono hB,Nat.le_trans hB hb.size,HE.out.below hb,(hb.block p (Nat.lt_of_lt_of_le hpB hB)).trans hrow,hm.below hb⟩)
     have hbase:Hid (∀w2,Below B w w2->BaseAt B w2 (.pointer (some ⟨p,0,none⟩)) (some y)):=Ih (fun w2 hb=>BaseAt.at (b:=some y) ⟨p,fr,sch,usr,pas,hh,hst,prt,opq,a2,c,xs,hq2,hf2,qry,frg,rfl,hpB,hrow,hy,hcells⟩ hb);have hkept:Hid (UrlKept B w (.agg #[.string sch,.string usr,.string pas,.bool hh,.string hst,.int .i64 prt,.bool opq,.slice a2 xs.length c,.bool hq2,.bool hf2,.string qry,.string frg]) y):=Ih (by rw[hy];exact base_kept hB hcells);clear hU hys hyo huq huf hrow hm hy hcells;have hsch:Hid (({u with scheme:=sch.data.toList}:Lz.UrlL)=({sch:=sch,usr:=xusr,pas:=xpas,hh:=xhh,hst:=xhst,prt:=xprt,opq:=xopq,pv:=xpv,xs:=xxs,hq:=xhq,hf:=xhf,qry:=xqry,frg:=xfrg}:MkV).url):=Ih (by rw[<-hx];rfl);clear hx;cases opq with
     | false=>
       have HU2:Hid (goal=if sch.data.toList=Lz.fileS then Lz.filesU {u with scheme:=sch.data.toList} (some y) s.data.toList else Lz.relU {u with scheme:=sch.data.toList} y s.data.toList):=Ih HU.out;go_enter Tryz.func69,Tryz.ntmps69
       go_wp2_with fail
       refine CS.out.mono ?_;rintro e w1 ⟨a,r,rfl,ha,hr,hb1⟩;obtain⟨hbB,hB1,hE1,hrow1,hm1⟩:=hrun.out w1 hb1;have d6:=rowAt hrow1 6 (.bool false) rfl;have d0:=rowAt hrow1 0 (.string sch) rfl;have hrs:r.size<=s.size:=by rw[<-len_of_size r,hr.out,len_of_size];exact Nat.le_refl _
       have cA:=Ih (as_any B M _ false ⟨#[]⟩ sch w1 hm1);have Hr:Hid (r.data.toList=s.data.toList):=Ih hr.out;clear ha hr hm1 HU
       go_wp2_with fail
       refine cA.out.mono ?_;rintro e w2 ⟨rfl,hb2,hm2⟩;have hb02:=hbB.trans hb2;have hB2:B<=w2.heap.size:=Nat.le_trans hB hb02.size;have hE2:=HE.out.at hb02 hBg;have hmi:MkIs B M w2 {u with scheme:=sch.data.toList}:=⟨_,hm2,Ih hsch.out.symm⟩;have hrow2:w2.heap[p]? =_:=(hb2.block p hpB).trans hrow1;have e6:=rowAt hrow2 6 (.bool false) rfl;by_cases hf:sch.data.toList=Lz.fileS
       ·have g0:=text_yes (k:=[102,105,108,101]) hf;have HG:Hid (goal=Lz.filesU {u with scheme:=sch.data.toList} (some y) r.data.toList):=by show _=_;rw[HU2.out,if_pos hf,Hr.out]
        have cF:=Ih (filesM_any B M {u with scheme:=sch.data.toList} (some y) _ r (by omega) w2 hE2 hmi hB2 hBg (hbase.out w2 hb02) (fun z hz=>by have:=hL z hz;omega) (by show u.path.length<=_;omega) hf);clear HU2 hf hm2
        go_wp2_with fail
        refine cF.out.mono ?_;rintro e w3 ⟨v,rfl,hb3,hres⟩
        go_wp2_with fail
        go_ret;refine⟨_,rfl,hb02.trans hb3,?_⟩;rw[HG.out];exact hres
       ·have g0:=text_no (k:=[102,105,108,101]) hf;have HG:Hid (goal=Lz.relU {u with scheme:=sch.data.toList} y r.data.toList):=by show _=_;rw[HU2.out,if_neg hf,Hr.out]
        have cR:=Ih (relM_any B M {u with scheme:=sch.data.toList} y _ r (by omega) w2 hE2 hmi hB2 hBg (hkept.out.at hb02) (by omega) (by show u.path.length<=_;omega));clear HU2 hf hm2
        go_wp2_with (refine wpList_load_row rfl 36 (.tmp 96) rfl p rfl 36 _ fr _ hrow2 Tryz.underlying36 rfl urlSize ?_)
        refine cR.out.mono ?_;rintro e w3 ⟨v,rfl,hb3,hres⟩
        go_wp2_with fail
        go_ret;refine⟨_,rfl,hb02.trans hb3,?_⟩;rw[HG.out];exact hres
     | true=>
       by_cases hall:s.data.toList=[]/\xhq=false/\xhf=true
       ·obtain⟨he,rfl,rfl⟩:=hall;have g0:=text_yes he;have hem:s.toList.isEmpty=true:=isEmpty_of_size (by rw[<-len_of_size,he];rfl);have HG:Hid (goal=.ok (Lz.pathU {u with scheme:=sch.data.toList,opq:=true} y (⟨#[]⟩:ByteArray).data.toList)):=by show _=_;rw[HU.out,if_neg (by rw[he,Huq.out,Huf.out];simp),if_pos rfl]
        clear he;go_enter Tryz.func69,Tryz.ntmps69
        go_wp2_with fail
        refine CS.out.mono ?_;rintro e w1 ⟨a,r,rfl,ha,hr,hb1⟩;obtain⟨hbB,hB1,hE1,hrow1,hm1⟩:=hrun.out w1 hb1;have d6:=rowAt hrow1 6 (.bool true) rfl;have d0:=rowAt hrow1 0 (.string sch) rfl;have m8:=rowAt hm1.row 8 (.bool false) rfl;have m9:=rowAt hm1.row 9 (.bool true) rfl;have cA:=Ih (as_any B M _ false ⟨#[]⟩ sch w1 hm1);clear ha hr hm1 HU
        go_wp2_with fail
        refine cA.out.mono ?_;rintro e w2 ⟨rfl,hb2,hm2⟩;have hb02:=hbB.trans hb2;have hB2:B<=w2.heap.size:=Nat.le_trans hB hb02.size;have hmi:MkIs B M w2 {u with scheme:=sch.data.toList}:=⟨_,hm2,Ih hsch.out.symm⟩;have hrow2:w2.heap[p]? =_:=(hb2.block p hpB).trans hrow1;have e6:=rowAt hrow2 6 (.bool true) rfl;obtain⟨v6,c6,f6⟩:=mk_cell hmi 6 (by decide);obtain⟨hb3,hm3⟩:=mk_opq hmi hb02 true;have hbs:Below B w2 (w2.setCell ⟨M,6,none⟩ (.bool true)):=(Below.refl B w2).setCell (p:=⟨M,6,none⟩) hm2.le _;have hrow3:(w2.setCell ⟨M,6,none⟩ (.bool true)).heap[p]? =_:=(hbs.block p hpB).trans hrow2;have cP:=Ih (pathM_any B M _ y _ ⟨#[]⟩ _ (HE.out.at hb3 hBg) hm3 (Nat.le_trans hB hb3.size) hBg (hkept.out.at hb3).now (by show y.path.length+0<=_;omega));clear hm2 hm3 hmi
        go_wp2_with (refine wpList_load_row rfl 36 (.tmp 81) rfl p rfl 36 _ fr _ hrow3 Tryz.underlying36 rfl urlSize ?_)
        refine cP.out.mono ?_;rintro e w4 ⟨rfl,hb4,hm4⟩
        go_wp2_with fail
        go_ret;refine⟨_,rfl,hb3.trans hb4,?_⟩;rw[HG.out];exact⟨rfl,hm4⟩
       ·have hcond:(!s.data.toList.isEmpty||xhq|| !xhf)=true:=by
         cases hl:s.data.toList with
         | cons c r=>rfl
         | nil=>
           cases xhq with
           | true=>rfl
           | false=>
             cases xhf with
             | false=>rfl
             | true=>exact absurd ⟨hl,rfl,rfl⟩ hall
        have HG:Hid (goal=.er 82):=by show _=_;rw[HU.out,if_pos (by rw[Bool.true_and,Huq.out,Huf.out];exact hcond)]
        by_cases he:s.data.toList=[]
        ·have g0:=text_yes he;have hem:s.toList.isEmpty=true:=isEmpty_of_size (by rw[<-len_of_size,he];rfl);cases xhq with
         | true=>
           clear he hall hcond HU;go_enter Tryz.func69,Tryz.ntmps69
           go_wp2_with fail
           refine CS.out.mono ?_;rintro e w1 ⟨a,r,rfl,ha,hr,hb1⟩;obtain⟨hbB,hB1,hE1,hrow1,hm1⟩:=hrun.out w1 hb1;have d6:=rowAt hrow1 6 (.bool true) rfl;have m8:=rowAt hm1.row 8 (.bool true) rfl
           go_wp2_with fail
           go_ret;refine⟨_,rfl,hbB,?_⟩;rw[HG.out];exact⟨_,rfl⟩
         | false=>
           have hxf:xhf=false:=by
            cases xhf with
            | false=>rfl
            | true=>exact absurd ⟨he,rfl,rfl⟩ hall
           subst hxf;clear he hall hcond HU;go_enter Tryz.func69,Tryz.ntmps69
           go_wp2_with fail
           refine CS.out.mono ?_;rintro e w1 ⟨a,r,rfl,ha,hr,hb1⟩;obtain⟨hbB,hB1,hE1,hrow1,hm1⟩:=hrun.out w1 hb1;have d6:=rowAt hrow1 6 (.bool true) rfl;have m8:=rowAt hm1.row 8 (.bool false) rfl;have m9:=rowAt hm1.row 9 (.bool false) rfl
           go_wp2_with fail
           go_ret;refine⟨_,rfl,hbB,?_⟩;rw[HG.out];exact⟨_,rfl⟩
        ·have g0:=text_no he;have hem:s.toList.isEmpty=false:=isEmpty_of_pos (by rw[<-len_of_size];exact List.length_pos_iff.2 he);clear he hall hcond HU;go_enter Tryz.func69,Tryz.ntmps69
         go_wp2_with fail
         refine CS.out.mono ?_;rintro e w1 ⟨a,r,rfl,ha,hr,hb1⟩;obtain⟨hbB,hB1,hE1,hrow1,hm1⟩:=hrun.out w1 hb1;have d6:=rowAt hrow1 6 (.bool true) rfl
         go_wp2_with fail
         go_ret;refine⟨_,rfl,hbB,?_⟩;rw[HG.out];exact⟨_,rfl⟩
end Go.Proofs.YtjhccadmmnjpeaaGreatDoor
