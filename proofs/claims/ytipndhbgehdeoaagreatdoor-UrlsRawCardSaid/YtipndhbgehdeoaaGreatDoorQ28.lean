/-
  Package urls: read.
-/
import Derived.Test.YtipndhbgehdeoaaGreatDoorQ25
import Derived.Test.YtipndhbgehdeoaaGreatDoorQ27
import Derived.Test.YtipndhbgehdeoaaGreatDoorQ20
set_option maxHeartbeats 4000000
set_option maxRecDepth 100000
namespace Go.Proofs.YtipndhbgehdeoaaGreatDoor
open Go.RowKit
def ofQ:Option Lz.UrlL->Bool
 | some x=>decide (x.scheme=Lz.fileS)
 | none=>false
theorem filesM_any (B M:Nat) (u:Lz.UrlL) (b:Option Lz.UrlL) (bv:Value) (r:ByteArray) (hr:r.size<=900000) (w:World) (hE:EnvH w) (hm:MkIs B M w u) (hB:B<=w.heap.size) (hBg:9<=B) (hbv:BaseAt B w bv b) (hL:∀x,b=some x->x.path.length<=40000000) (hL2:u.path.length<=40000000) (hs:u.scheme=Lz.fileS):
  Calls Tryz.prog 55 #[.pointer (some ⟨M,0,none⟩),bv,.string r] w (RMkE B M (Lz.filesU u b r.data.toList) w):=by
 obtain⟨goal,hgoal⟩:∃goal,goal=Lz.filesU u b r.data.toList:=⟨_,rfl⟩;rw[<-hgoal];have Hgoal:=Ih hgoal;obtain⟨v3,c3,f3⟩:=mk_cell hm 3 (by decide);obtain⟨hb1,hm1⟩:=mk_hh hm (Below.refl B w) true;have hB1:B<=(w.setCell ⟨M,3,none⟩ (.bool true)).heap.size:=Nat.le_trans hB hb1.size;have hE1:=hE.at hb1 hBg;have hbv1:=hbv.at hb1;obtain⟨W1,hW1⟩:∃W1,W1=w.setCell ⟨M,3,none⟩ (.bool true):=⟨_,rfl⟩;rw[<-hW1]at hb1 hm1 hB1 hE1 hbv1;have hs1:({u with hasHost:=true}:Lz.UrlL).scheme=Lz.fileS:=hs;obtain⟨u1,hu1⟩:∃u1,u1=({u with hasHost:=true}:Lz.UrlL):=⟨_,rfl⟩;rw[<-hu1]at hm1 hs1;have Hu1:=Ih hu1;obtain⟨h12,h13⟩:=mk_sp hm1 (sp:=true) (by rw[hs1];rfl);obtain⟨n,hn⟩:∃n,n=Lz.leadS true r.data.toList:=⟨_,rfl⟩;have cT:=Ih (TrimLeft_sl r true W1);rw[<-hn]at cT;have Hn:=Ih hn;have hnl:n<=r.size:=by rw[hn,<-len_of_size];exact Lz.lead_le _ _
 have hL1:u1.path.length<=40000000:=by rw[hu1];exact hL2
 have hMl:M<W1.heap.size:=by obtain⟨x,hx,_⟩:=hm1;exact row_lt hx.row
 have HW1:Hid (W1=w.setCell ⟨M,3,none⟩ (.bool true)):=Ih hW1;obtain⟨q,hq⟩:∃q,q=ofQ b:=⟨_,rfl⟩;have Hq:=Ih hq;have HE0:=Ih hE;have Hbv:=Ih hbv1;clear hgoal hm hE hbv hn hu1 hs hL2 hq hW1;go_enter Tryz.func55,Tryz.ntmps55
 go_upto_region 2 with fail
 rw[<-HW1.out]
 go_cut [7] (fun s7 wx=>s7=.bool q/\W1=wx)
 case first=>
  cases b with
  | none=>
    have hbn:bv=.pointer none:=Hbv.out;subst hbn;have hqf:q=false:=Hq.out;subst hqf
    go_wp2_with fail
    go_meet;exact⟨rfl,rfl⟩
  | some x=>
    obtain⟨p,fr,sch,usr,pas,hh,hst,prt,opq,a,c,xs,hq2,hf,qry,frg,rfl,hpB,hrow,hx,hcells⟩:=Hbv.out;have d0:=rowAt hrow 0 (.string sch) rfl;have hqd:Hid (q=decide (sch.data.toList=Lz.fileS)):=by show _=_;rw[Hq.out];show decide (x.scheme=_)=_;rw[hx]
    clear hx hcells;by_cases hf0:sch.data.toList=Lz.fileS
    ·have g0:=text_yes (k:=[102,105,108,101]) hf0;have hqt:q=true:=by rw[hqd.out];exact decide_eq_true hf0
     subst hqt
     go_wp2_with fail
     go_meet;exact⟨rfl,rfl⟩
    ·have g0:=text_no (k:=[102,105,108,101]) hf0;have hqt:q=false:=by rw[hqd.out];exact decide_eq_false hf0
     subst hqt
     go_wp2_with fail
     go_meet;exact⟨rfl,rfl⟩
 case rest=>
  obtain⟨rfl,rfl⟩:=hcut
  go_wp2_with fail
  refine cT.out.mono ?_;rintro e w1 ⟨tb,rfl,htb,hb2⟩;have htz:tb.size=r.size-n:=by rw[<-len_of_size,htb.out,List.length_drop,len_of_size]
  have hsub:(r.size:Int)-(tb.size:Int)=(n:Int):=by omega
  have hsub2:IntKind.i64.wrap (n:Int)=(n:Int):=IntWalk.i64_in _ (by omega);have hm2:=hm1.below hb2;have hE2:=hE1.below hb2;have hb02:Below B w w1:=hb1.trans (hb2.mono hB1);have hB2:B<=w1.heap.size:=Nat.le_trans hB1 hb2.size;have g13:w1.cell? ⟨M,13,none⟩=some (.string (slashB true)):=by rw[hb2.cell (p:=⟨M,13,none⟩) hMl];exact h13
  have hbv2:=Ih (Hbv.out.at (hb2.mono hB1));clear htb htz cT h12 h13 hm1 hE1 HW1 Hbv c3 f3 hMl;rcases Nat.lt_or_ge 1 n with hn1|hn1
  ·have hn1I:(1:Int)<(n:Int):=by omega
   have h2I:(2:Int)<=(r.size:Int):=by omega
   have hx2:=extract_size_le' r 2 r.size;have hU:=filesU_two u b r.data.toList (by rw[<-Hn.out];exact hn1);rw[<-Hgoal.out,<-Hu1.out,<-extract_from]at hU;have cC:=cutM_any M true (r.extract 2 r.size) (by omega) w1 g13;have hcl:=Lz.cutS_len true (r.extract 2 r.size).data.toList;generalize hct:Lz.cutS true (r.extract 2 r.size).data.toList=cc at cC hU hcl;obtain⟨hl,tl,more⟩:=cc;simp only[len_of_size]at hcl;have CC:=Ih cC;have HU:=Ih hU;clear cC hU hct
   go_wp2_with fail
   refine CC.out.mono ?_;rintro e w2 ⟨hb,tb2,rfl,hhb,htb,hb3⟩;have hhs:hb.size<=r.size:=by rw[<-len_of_size,hhb.out];omega
   have hts:tb2.size<=r.size:=by rw[<-len_of_size,htb.out];omega
   have hU2:goal=(if Lz.driveP hb.data.toList then .ok (Lz.onP u1 (r.extract 2 r.size).data.toList)
     else(if hb.data.toList=[]then Lz.UR.ok u1 else Lz.hostU u1 hb.data.toList).bind fun u=>.ok (Lz.onP (if u.host=Lz.localS then{u with host:=[]} else u) tb2.data.toList)):=by
    rw[HU.out,hhb.out,htb.out]
   have cD:=drive_any hb w2;generalize Lz.driveP hb.data.toList=dq at cD hU2;have CD:=Ih cD;have HU2:=Ih hU2;have hm3:=hm2.below hb3;have hE3:=hE2.below hb3;have hb03:Below B w w2:=hb02.trans (hb3.mono hB2);have hB3:B<=w2.heap.size:=Nat.le_trans hB2 hb3.size;clear hU2 cD CC HU hhb htb hm2 hE2;cases dq with
   | true=>
     have HG:Hid (goal=.ok (Lz.onP u1 (r.extract 2 r.size).data.toList)):=by show _=_;rw[HU2.out,if_pos rfl]
     have cO:=Ih (on_any B M (r.extract 2 r.size) u1 w2 hE3 hm3 hB3 hBg (by omega))
     go_wp2_with fail
     refine(CD.out).mono ?_;rintro e w3 ⟨rfl,rfl⟩
     go_wp2_with fail
     refine cO.out.mono ?_;rintro e w3 ⟨rfl,hb4,hm4⟩
     go_wp2_with fail
     go_ret;refine⟨_,rfl,hb03.trans hb4,?_⟩;rw[HG.out];exact⟨rfl,hm4⟩
   | false=>
     have HU3:Hid (goal=(if hb.data.toList=[]then Lz.UR.ok u1 else Lz.hostU u1 hb.data.toList).bind fun u=>.ok (Lz.onP (if u.host=Lz.localS then{u with host:=[]} else u) tb2.data.toList)):=by show _=_;rw[HU2.out,if_neg (by simp)]
     clear HU2
     go_wp2_with fail
     refine(CD.out).mono ?_;rintro e w3 ⟨rfl,rfl⟩;obtain⟨ne,hne⟩:∃ne,ne= !decide (hb.data.toList=[]):=⟨_,rfl⟩;have Hne:=Ih hne;clear hne
     go_upto_region 12 with fail
     go_cut [66] (fun s66 wx=>s66=.bool ne/\w2=wx)
     case first=>
      by_cases he:hb.data.toList=[]
      ·have g0:=text_yes he;have hem:hb.toList.isEmpty=true:=isEmpty_of_size (by rw[<-len_of_size,he];rfl);have hnf:ne=false:=by rw[Hne.out,decide_eq_true he];rfl
       subst hnf;clear he
       go_wp2_with fail
       go_meet;exact⟨rfl,rfl⟩
      ·have g0:=text_no he;have hem:hb.toList.isEmpty=false:=isEmpty_of_pos (by rw[<-len_of_size];exact List.length_pos_iff.2 he);have hnf:ne=true:=by rw[Hne.out,decide_eq_false he];rfl
       subst hnf;clear he
       go_wp2_with fail
       go_meet;exact⟨rfl,rfl⟩
     case rest=>
      obtain⟨rfl,rfl⟩:=hcut
      go_upto_if 66 with fail
      go_cut [] (fun wx=>Below B w wx/\∃u2,MkIs B M wx u2/\u2.path.length<=40000000/\Hid (goal=.ok (Lz.onP (if u2.host=Lz.localS then{u2 with host:=[]} else u2) tb2.data.toList)))
      case first=>
       cases ne with
       | false=>
         have he:hb.data.toList=[]:=by have:=Hne.out;simpa using this
         have HG:Hid (goal=.ok (Lz.onP (if u1.host=Lz.localS then{u1 with host:=[]} else u1) tb2.data.toList)):=by show _=_;rw[HU3.out,if_pos he];rfl
         clear he
         go_wp2_with fail
         go_meet;exact⟨hb03,u1,hm3,hL1,HG⟩
       | true=>
         have he:¬hb.data.toList=[]:=by have:=Hne.out;simpa using this
         have HG:Hid (goal=(Lz.hostU u1 hb.data.toList).bind fun u=>.ok (Lz.onP (if u.host=Lz.localS then{u with host:=[]} else u) tb2.data.toList)):=by show _=_;rw[HU3.out,if_neg he]
         have cH:=Ih (hostM_any B M u1 hb (by omega) w2 hE3 hm3 hB3);clear he HU3
         go_wp2_with fail
         refine cH.out.mono ?_;rintro e w4 ⟨v,rfl,hb4,hres⟩;have hb04:=hb03.trans hb4;generalize hrr:Lz.hostU u1 hb.data.toList=rr at hres HG;cases rr with
         | er m=>
           obtain⟨pp,rfl⟩:=hres;clear hrr
           go_wp2_with fail
           go_ret;refine⟨_,rfl,hb04,?_⟩;rw[HG.out];exact⟨pp,rfl⟩
         | ok u2=>
           obtain⟨rfl,hm4⟩:=hres;have hp2:u2.path.length<=40000000:=by rw[(Lz.hostU_path hrr).1];exact hL1
           have HG2:Hid (goal=.ok (Lz.onP (if u2.host=Lz.localS then{u2 with host:=[]} else u2) tb2.data.toList)):=Ih HG.out;clear hrr
           go_wp2_with fail
           go_meet;exact⟨hb04,u2,hm4,hp2,HG2⟩
      case rest=>
       clear hb03 hm3 hE3 hB3;obtain⟨hb03,u2,hm3,hp2,HG⟩:=hcut;have hB3:B<=wc.heap.size:=Nat.le_trans hB hb03.size;have hE3:EnvH wc:=HE0.out.at hb03 hBg;obtain⟨hst,c4,hhst⟩:=mk_get hm3;obtain⟨v4,c4',f4⟩:=mk_cell hm3 4 (by decide);clear c4';by_cases hlo:hst.data.toList=Lz.localS
       ·have g0:=text_yes (k:=[108,111,99,97,108,104,111,115,116]) hlo;have HG2:Hid (goal=.ok (Lz.onP {u2 with host:=(⟨#[]⟩:ByteArray).data.toList} tb2.data.toList)):=by show _=_;rw[HG.out,if_pos (by rw[<-hhst];exact hlo)]
        obtain⟨hb4,hm4⟩:=mk_host hm3 hb03 ⟨#[]⟩;have hb34:Below B wc (wc.setCell ⟨M,4,none⟩ (.string ⟨#[]⟩)):=(Below.refl B wc).setCell (p:=⟨M,4,none⟩) (by obtain⟨x,hx,_⟩:=hm3;exact hx.le) _;have cO:=Ih (on_any B M tb2 _ (wc.setCell ⟨M,4,none⟩ (.string ⟨#[]⟩)) (hE3.at hb34 hBg) hm4 (Nat.le_trans hB hb4.size) hBg (by show u2.path.length+_<=_;omega));clear hlo hhst
        go_wp2_with fail
        refine cO.out.mono ?_;rintro e w5 ⟨rfl,hb5,hm5⟩
        go_wp2_with fail
        go_ret;refine⟨_,rfl,hb4.trans hb5,?_⟩;rw[HG2.out];exact⟨rfl,hm5⟩
       ·have g0:=text_no (k:=[108,111,99,97,108,104,111,115,116]) hlo;have HG2:Hid (goal=.ok (Lz.onP u2 tb2.data.toList)):=by show _=_;rw[HG.out,if_neg (by rw[<-hhst];exact hlo)]
        have cO:=Ih (on_any B M tb2 _ wc hE3 hm3 hB3 hBg (by omega));clear hlo hhst
        go_wp2_with fail
        refine cO.out.mono ?_;rintro e w5 ⟨rfl,hb5,hm5⟩
        go_wp2_with fail
        go_ret;refine⟨_,rfl,hb03.trans hb5,?_⟩;rw[HG2.out];exact⟨rfl,hm5⟩
  ·have hn1I:¬((1:Int)<(n:Int)):=by omega
   by_cases hn2:n=1
   ·have hnb:((n:Int)==1)=true:=by rw[hn2];rfl
    have h1I:(1:Int)<=(r.size:Int):=by omega
    have hx1:=extract_size_le' r 1 r.size;have hU:=filesU_one u b r.data.toList (by rw[<-Hn.out];exact hn2);rw[<-Hgoal.out,<-extract_from]at hU;cases q with
    | false=>
      have HG:Hid (goal=.ok (Lz.onP u1 (r.extract 1 r.size).data.toList)):=by
       show _=_;rw[hU];congr 2;cases b with
       | none=>exact Hu1.out.symm
       | some x=>simp only;rw[if_neg (of_decide_eq_false Hq.out.symm)];exact Hu1.out.symm
      have cO:=Ih (on_any B M (r.extract 1 r.size) u1 w1 hE2 hm2 hB2 hBg (by omega));clear hn2 hU
      go_wp2_with fail
      refine cO.out.mono ?_;rintro e w5 ⟨rfl,hb5,hm5⟩
      go_wp2_with fail
      go_ret;refine⟨_,rfl,hb02.trans hb5,?_⟩;rw[HG.out];exact⟨rfl,hm5⟩
    | true=>
      cases b with
      | none=>cases Hq.out
      | some x=>
        have hxs:x.scheme=Lz.fileS:=of_decide_eq_true Hq.out.symm;simp only at hU;rw[if_pos hxs]at hU;obtain⟨p,fr,sch,usr,pas,hh,hst,prt,opq,a,c,xs,hq2,hf,qry,frg,rfl,hpB,hrow,hx,hcells⟩:=hbv2.out;have d4:=rowAt hrow 4 (.string hst) rfl;have hxh:x.host=hst.data.toList:=by rw[hx]
        have hxp:x.path=xs.map (fun x:ByteArray=>x.data.toList):=by rw[hx]
        obtain⟨v4,c4,f4⟩:=mk_cell hm2 4 (by decide);obtain⟨hb3,hm3⟩:=mk_host hm2 hb02 hst;have hb23:Below B w1 (w1.setCell ⟨M,4,none⟩ (.string hst)):=(Below.refl B w1).setCell (p:=⟨M,4,none⟩) (by obtain⟨x,hx,_⟩:=hm2;exact hx.le) _;have hB3:B<=(w1.setCell ⟨M,4,none⟩ (.string hst)).heap.size:=Nat.le_trans hB hb3.size;have hE3:=hE2.at hb23 hBg;have d7:(w1.setCell ⟨M,4,none⟩ (.string hst)).cell? ⟨p,7,none⟩=some (.slice a xs.length c):=by rw[hb23.cell (p:=⟨p,7,none⟩) hpB];exact rowAt hrow 7 _ rfl
        have hcells3:∀(j:Nat) (y:ByteArray),xs[j]? =some y->∃G off,a=some ⟨G,off,none⟩/\G<B/\(w1.setCell ⟨M,4,none⟩ (.string hst)).cell? ⟨G,off+j,none⟩=some (.string y):=by
         intro j y hj;obtain⟨G,off,e1,e2,e3⟩:=hcells j y hj;exact⟨G,off,e1,e2,by rw[hb23.cell (p:=⟨G,off+j,none⟩) e2];exact e3⟩
        have hpa:PathAt (w1.setCell ⟨M,4,none⟩ (.string hst)) (.slice a xs.length c) (xs.map (fun x:ByteArray=>x.data.toList)):=⟨a,c,xs,rfl,rfl,fun j y hj=>by
         obtain⟨G,off,e1,e2,e3⟩:=hcells3 j y hj;exact⟨G,off,e1,Nat.lt_of_lt_of_le e2 hB3,e3⟩⟩
        have cR:=rooted_any _ _ _ hpa;have cV:=driven_any (r.extract 1 r.size) (w1.setCell ⟨M,4,none⟩ (.string hst));rw[hxp,hxh]at hU;have hU1:({u with hasHost:=true,host:=hst.data.toList}:Lz.UrlL)={u1 with host:=hst.data.toList}:=by rw[Hu1.out]
        have hU2:({u with hasHost:=true,host:=hst.data.toList,path:=(xs.map (fun x:ByteArray=>x.data.toList)).take 1}:Lz.UrlL)={u1 with host:=hst.data.toList,path:=(xs.map (fun x:ByteArray=>x.data.toList)).take 1}:=by rw[Hu1.out]
        rw[hU1,hU2]at hU;generalize hw3:w1.setCell ⟨M,4,none⟩ (.string hst)=w3 at hb3 hm3 hb23 hB3 hE3 d7 hcells3 hpa cR cV;have cO1:=Ih (on_any B M (r.extract 1 r.size) _ w3 hE3 hm3 hB3 hBg (by show u1.path.length+_<=_;omega));generalize hrt:Lz.rootedP (xs.map (fun x:ByteArray=>x.data.toList))=rt at cR hU;generalize Lz.drivenP (r.extract 1 r.size).data.toList=dv at cV hU;have CV:=Ih cV;have CR:=Ih cR;have HU:=Ih hU;have HC:=Ih hcells3;clear cV cR hU hU1 hU2 hcells3 hpa hcells hx hxs hxh hxp hn2 hrow;cases dv with
        | true=>
          have HG:Hid (goal=.ok (Lz.onP {u1 with host:=hst.data.toList} (r.extract 1 r.size).data.toList)):=by show _=_;rw[HU.out,if_neg (by simp)]
          have cO:=cO1;clear hrt
          go_wp2_with fail
          refine CV.out.mono ?_;rintro e w4 ⟨rfl,rfl⟩
          go_wp2_with fail
          refine cO.out.mono ?_;rintro e w5 ⟨rfl,hb5,hm5⟩
          go_wp2_with fail
          go_ret;refine⟨_,rfl,hb3.trans hb5,?_⟩;rw[HG.out];exact⟨rfl,hm5⟩
        | false=>
          cases rt with
          | false=>
            have HG:Hid (goal=.ok (Lz.onP {u1 with host:=hst.data.toList} (r.extract 1 r.size).data.toList)):=by show _=_;rw[HU.out,if_neg (by simp)]
            have cO:=cO1;clear hrt
            go_wp2_with fail
            refine CV.out.mono ?_;rintro e w4 ⟨rfl,rfl⟩
            go_wp2_with fail
            refine CR.out.mono ?_;rintro e w4 ⟨rfl,rfl⟩
            go_wp2_with fail
            refine cO.out.mono ?_;rintro e w5 ⟨rfl,hb5,hm5⟩
            go_wp2_with fail
            go_ret;refine⟨_,rfl,hb3.trans hb5,?_⟩;rw[HG.out];exact⟨rfl,hm5⟩
          | true=>
            cases xs with
            | nil=>cases hrt
            | cons x0 xr=>
              obtain⟨G,off,rfl,hGB,hc0⟩:=HC.out 0 x0 rfl;rw[Nat.add_zero]at hc0;have hl0:(0:Int)<((x0::xr).length:Int):=by rw[List.length_cons];omega
              have hl1:(0:Int)<(xr.length:Int)+1:=by omega
              have HG:Hid (goal=.ok (Lz.onP {u1 with host:=hst.data.toList,path:=[x0].map (fun x:ByteArray=>x.data.toList)} (r.extract 1 r.size).data.toList)):=by show _=_;rw[HU.out,if_pos ⟨rfl,rfl⟩];rfl
              have hba:Below w3.heap.size w3 (w3.alloc (.cells #[.string x0] 9)):=(Below.refl _ _).alloc (Nat.le_refl _) _;obtain⟨hb5,hm5⟩:=mk_path (hm3.below hba) (hb3.trans (hba.mono hB3)) (path_one w3 B x0);obtain⟨v7,c7,f7⟩:=mk_cell (hm3.below hba) 7 (by decide);have hE5:EnvH ((w3.alloc (.cells #[.string x0] 9)).setCell ⟨M,7,none⟩ (.slice (some ⟨w3.heap.size,0,none⟩) 1 1)):=HE0.out.at hb5 hBg;have cO:=Ih (on_any B M (r.extract 1 r.size) _ _ hE5 hm5 (Nat.le_trans hB hb5.size) hBg (by show 1+_<=_;omega));clear hrt hE5 hm5
              go_wp2_with fail
              refine CV.out.mono ?_;rintro e w4 ⟨rfl,rfl⟩
              go_wp2_with fail
              refine CR.out.mono ?_;rintro e w4 ⟨rfl,rfl⟩
              go_wp2_with fail
              refine cO.out.mono ?_;rintro e w5 ⟨rfl,hb6,hm6⟩
              go_wp2_with fail
              go_ret;refine⟨_,rfl,hb5.trans hb6,?_⟩;rw[HG.out];exact⟨rfl,hm6⟩
   ·have hnb:((n:Int)==1)=false:=by rw[beq_eq_false_iff_ne];omega
    have hU:=filesU_none u b r.data.toList (by rw[<-Hn.out];omega);rw[<-Hgoal.out]at hU;cases q with
    | false=>
      have HG:Hid (goal=.ok (Lz.onP u1 r.data.toList)):=by
       show _=_;rw[hU];cases b with
       | none=>rw[Hu1.out]
       | some x=>simp only;rw[if_neg (of_decide_eq_false Hq.out.symm),Hu1.out]
      have cO:=Ih (on_any B M r u1 w1 hE2 hm2 hB2 hBg (by omega));clear hn2 hU
      go_wp2_with fail
      refine cO.out.mono ?_;rintro e w5 ⟨rfl,hb5,hm5⟩
      go_wp2_with fail
      go_ret;refine⟨_,rfl,hb02.trans hb5,?_⟩;rw[HG.out];exact⟨rfl,hm5⟩
    | true=>
      cases b with
      | none=>cases Hq.out
      | some x=>
        have hxs:x.scheme=Lz.fileS:=of_decide_eq_true Hq.out.symm;simp only at hU;rw[if_pos hxs]at hU;have hxL:=hL x rfl;obtain⟨p,fr,sch,usr,pas,hh,hst,prt,opq,a,c,xs,hq2,hf,qry,frg,rfl,hpB,hrow,hx,hcells⟩:=hbv2.out;have d4:=rowAt hrow 4 (.string hst) rfl;have hxh:x.host=hst.data.toList:=by rw[hx]
        obtain⟨v4,c4,f4⟩:=mk_cell hm2 4 (by decide);obtain⟨hb3,hm3⟩:=mk_host hm2 hb02 hst;have hb23:Below B w1 (w1.setCell ⟨M,4,none⟩ (.string hst)):=(Below.refl B w1).setCell (p:=⟨M,4,none⟩) (by obtain⟨x,hx,_⟩:=hm2;exact hx.le) _;have hB3:B<=(w1.setCell ⟨M,4,none⟩ (.string hst)).heap.size:=Nat.le_trans hB hb3.size;have hE3:=hE2.at hb23 hBg;have hK:=(base_kept (sch:=sch) (usr:=usr) (pas:=pas) (hh:=hh) (hst:=hst) (prt:=prt) (opq:=opq) (c:=c) (hq:=hq2) (hf:=hf) (qry:=qry) (frg:=frg) hB2 hcells).at hb23;rw[<-hx]at hK;have hrow3:(w1.setCell ⟨M,4,none⟩ (.string hst)).heap[p]? =_:=(hb23.block p hpB).trans hrow;have cV:=driven_any r w1;rw[hxh]at hU;have hU1:({u with hasHost:=true,host:=hst.data.toList}:Lz.UrlL)={u1 with host:=hst.data.toList}:=by rw[Hu1.out]
        rw[hU1]at hU;generalize hw3:w1.setCell ⟨M,4,none⟩ (.string hst)=w3 at hb3 hm3 hb23 hB3 hE3 hK hrow3;have cO:=Ih (on_any B M r _ w3 hE3 hm3 hB3 hBg (by show u1.path.length+_<=_;omega));have cP:=Ih (pathM_any B M _ x _ r w3 hE3 hm3 hB3 hBg hK.now (by omega));generalize Lz.drivenP r.data.toList=dv at cV hU;have CV:=Ih cV;have HU:=Ih hU;clear cV hU hU1 hcells hx hxs hxh hn2 hrow;cases dv with
        | true=>
          have HG:Hid (goal=.ok (Lz.onP {u1 with host:=hst.data.toList} r.data.toList)):=by show _=_;rw[HU.out,if_pos rfl]
          go_wp2_with fail
          refine CV.out.mono ?_;rintro e w4 ⟨rfl,rfl⟩
          go_wp2_with fail
          refine cO.out.mono ?_;rintro e w5 ⟨rfl,hb5,hm5⟩
          go_wp2_with fail
          go_ret;refine⟨_,rfl,hb3.trans hb5,?_⟩;rw[HG.out];exact⟨rfl,hm5⟩
        | false=>
          have HG:Hid (goal=.ok (Lz.pathU {u1 with host:=hst.data.toList} x r.data.toList)):=by show _=_;rw[HU.out,if_neg (by simp)]
          go_wp2_with fail
          refine CV.out.mono ?_;rintro e w4 ⟨rfl,rfl⟩
          go_wp2_with (refine wpList_load_row rfl 25 (.tmp 131) rfl p rfl 25 _ fr _ hrow3 Tryz.underlying25 rfl urlSize ?_)
          refine cP.out.mono ?_;rintro e w5 ⟨rfl,hb5,hm5⟩
          go_wp2_with fail
          go_ret;refine⟨_,rfl,hb3.trans hb5,?_⟩;rw[HG.out];exact⟨rfl,hm5⟩
theorem same_text (s t:ByteArray):(s.toList==t.toList)=decide (s.data.toList=t.data.toList):=by
 rw[Lib.toList_data,Lib.toList_data,Bool.eq_iff_iff];simp
theorem mk_opq {B M:Nat} {w w1:World} {u:Lz.UrlL} (hm:MkIs B M w1 u) (hb:Below B w w1) (q:Bool):
  Below B w (w1.setCell ⟨M,6,none⟩ (.bool q))/\MkIs B M (w1.setCell ⟨M,6,none⟩ (.bool q)) {u with opq:=q}:=by
 obtain⟨sch,usr,pas,hh,hst,prt,opq,a,c,ys,hq,hf,qry,frg,hk,rfl,hc,hcells⟩:=hm.form;exact⟨hb.setCell (p:=⟨M,6,none⟩) hk.le _,_,mk_set hk 6 (.bool q) ⟨sch,usr,pas,hh,hst,prt,q,.slice a ys.length c,ys,hq,hf,qry,frg⟩ (Lz.specP sch.data.toList) (slashB (Lz.specP sch.data.toList)) (by simp) (fun _ h=>h),Ih rfl⟩
def spcU (u:Lz.UrlL) (a r:List UInt8):Option Lz.UrlL->Lz.UR
 | some x=>if x.scheme=a/\Lib.hasPrefix r [47,47]=false then Lz.relU u x r else Lz.hostedU u (r.drop (Lz.leadS true r))
 | none=>Lz.hostedU u (r.drop (Lz.leadS true r))
def plnU (u:Lz.UrlL) (r:List UInt8):Lz.UR:=
 if Lib.hasPrefix r [47,47]then Lz.hostedU u (r.drop 2)
 else if Lib.hasPrefix r [47]then .ok (Lz.onP u (r.drop 1))
 else .ok {u with opq:=true,path:=[Lz.encodeP [] r]}
def okU (u:Lz.UrlL) (a r:List UInt8) (b:Option Lz.UrlL):Lz.UR:=if a=Lz.fileS then Lz.filesU u b r else if Lz.specP a then spcU u a r b else plnU u r
theorem mainU_ok (u:Lz.UrlL) (s:List UInt8) (b:Option Lz.UrlL) {a r:List UInt8} (h:Lz.schemedP s=(a,r,true)):Lz.mainU u s b=okU {u with scheme:=a} a r b:=by
 unfold Lz.mainU okU plnU;rw[h];cases b<;>rfl
theorem mainU_no (u:Lz.UrlL) (s:List UInt8) (b:Option Lz.UrlL) (h:(Lz.schemedP s).2.2=false):Lz.mainU u s b=match b with
  | none=>.er 82
  | some x=>if x.opq&&(!s.isEmpty||u.hasQuery|| !u.hasFragment)then .er 82
    else if x.opq then .ok (Lz.pathU {u with scheme:=x.scheme,opq:=true} x [])
    else if x.scheme=Lz.fileS then Lz.filesU {u with scheme:=x.scheme} b s
    else Lz.relU {u with scheme:=x.scheme} x s:=by
 unfold Lz.mainU;simp only[h];cases b<;>rfl
theorem schemedP_no {s:List UInt8} (h:(Lz.schemedP s).2.2=false):Lz.schemedP s=([],s,false):=by
 rw[schemed_eq]at h⊢;split
 ·rename_i h2;rw[if_pos h2]at h;cases h
 ·rfl
theorem hasPrefix_le {s p:List UInt8} (h:Lib.hasPrefix s p=true):p.length<=s.length:=(List.isPrefixOf_iff_prefix.1 h).length_le
theorem mainM_any (B M:Nat) (x:MkV) (u:Lz.UrlL) (hx:x.url=u) (b:Option Lz.UrlL) (bv:Value) (s:ByteArray) (hs:s.size<=800000) (w:World) (hE:EnvH w) (hm:MkAt B M w x false ⟨#[]⟩) (hB:B<=w.heap.size) (hBg:9<=B) (hbv:BaseAt B w bv b) (hL:∀y,b=some y->y.path.length<=30000000) (hL2:u.path.length<=30000000):
  Calls Tryz.prog 29 #[.pointer (some ⟨M,0,none⟩),.string s,bv] w (RMkE B M (Lz.mainU u s.data.toList b) w):=by
 obtain⟨goal,hgoal⟩:∃goal,goal=Lz.mainU u s.data.toList b:=⟨_,rfl⟩;rw[<-hgoal];have cS:=schemed_any s (by omega) w hE;have hscl:(Lz.schemedP s.data.toList).2.2=true->(Lz.schemedP s.data.toList).1.length+1+(Lz.schemedP s.data.toList).2.1.length=s.size:=fun h=>by rw[Lz.schemed_len h,len_of_size]
 cases hok:(Lz.schemedP s.data.toList).2.2 with
 | true=>
   obtain⟨al,hal⟩:∃al,al=(Lz.schemedP s.data.toList).1:=⟨_,rfl⟩;obtain⟨rl,hrl⟩:∃rl,rl=(Lz.schemedP s.data.toList).2.1:=⟨_,rfl⟩;have hU:=mainU_ok u s.data.toList b (a:=al) (r:=rl) (by rw[hal,hrl,<-hok]);rw[<-hgoal]at hU;have hlen:=hscl hok;rw[<-hal,<-hrl,hok]at cS;rw[<-hal,<-hrl]at hlen;have CS:=Ih cS;have HU:=Ih hU;have HE:=Ih hE;have HM:=Ih hm;have HBv:=Ih hbv;clear hgoal cS hscl hok hal hrl hU hE hm hbv;go_enter Tryz.func29,Tryz.ntmps29
   go_wp2_with fail
   refine CS.out.mono ?_;rintro e w1 ⟨a,r,rfl,ha,hr,hb1⟩;have har:a.size+1+r.size=s.size:=by rw[<-len_of_size a,<-len_of_size r,ha.out,hr.out];exact hlen
   have HU2:Hid (goal=okU {u with scheme:=a.data.toList} a.data.toList r.data.toList b):=by
    show _=_;rw[HU.out,ha.out,hr.out]
   have cA:=Ih (as_any B M x false ⟨#[]⟩ a w1 (HM.out.below hb1));clear ha hr hlen HU CS
   go_wp2_with fail
   refine cA.out.mono ?_;rintro e w2 ⟨rfl,hb2,hm2⟩;have hb02:Below B w w2:=(hb1.mono hB).trans hb2;have hB2:B<=w2.heap.size:=Nat.le_trans hB hb02.size;have hE2:=HE.out.at hb02 hBg;have hbv2:=HBv.out.at hb02;obtain⟨u2,hu2⟩:∃u2,u2=({u with scheme:=a.data.toList}:Lz.UrlL):=⟨_,rfl⟩;have hmi:MkIs B M w2 u2:=⟨{x with sch:=a},hm2,Ih (by rw[hu2,<-hx];rfl)⟩
   have HU3:Hid (goal=okU u2 a.data.toList r.data.toList b):=by
    show _=_;rw[HU2.out,hu2]
   have hs2:u2.scheme=a.data.toList:=by rw[hu2]
   have hp2:u2.path.length<=30000000:=by rw[hu2];exact hL2
   have Hbv2:=Ih hbv2;clear HU2 hm2 hx hu2 HE HM HBv cA hbv2;by_cases hf:a.data.toList=Lz.fileS
   ·have g0:=text_yes (k:=[102,105,108,101]) hf;have HG:Hid (goal=Lz.filesU u2 b r.data.toList):=by show _=_;rw[HU3.out,okU,if_pos hf]
    have cF:=Ih (filesM_any B M u2 b bv r (by omega) w2 hE2 hmi hB2 hBg Hbv2.out (fun y hy=>by have:=hL y hy;omega) (by omega) (by rw[hs2,hf]));clear HU3 hf
    go_wp2_with fail
    refine cF.out.mono ?_;rintro e w3 ⟨v,rfl,hb3,hres⟩
    go_wp2_with fail
    go_ret;refine⟨_,rfl,hb02.trans hb3,?_⟩;rw[HG.out];exact hres
   ·have g0:=text_no (k:=[102,105,108,101]) hf;obtain⟨sp,hsp⟩:∃sp,sp=Lz.specP a.data.toList:=⟨_,rfl⟩;obtain⟨h12,h13⟩:=mk_sp hmi (sp:=sp) (by rw[hs2];exact hsp)
    have HU4:Hid (goal=if sp then spcU u2 a.data.toList r.data.toList b else plnU u2 r.data.toList):=by
     show _=_;rw[HU3.out,okU,if_neg hf,hsp]
    clear HU3 hf hsp;have cP2:=Ih (fun W=>HasPrefix_c r ⟨#[47,47]⟩ W);obtain⟨p2,hp2'⟩:∃p2,p2=Lib.hasPrefix r.data.toList [47,47]:=⟨_,rfl⟩;rw[show Lib.hasPrefix r.data.toList (⟨#[47,47]⟩:ByteArray).data.toList=p2 from hp2'.symm]at cP2;have Hp2:=Ih hp2';clear hp2';cases sp with
    | true=>
      have HU5:Hid (goal=spcU u2 a.data.toList r.data.toList b):=Ih HU4.out;have hx3:(r.data.toList.drop (Lz.leadS true r.data.toList)).length<=r.size:=by rw[List.length_drop,len_of_size];omega
      have cT:=Ih (TrimLeft_sl r true w2)
      have cH:Hid (∀(W:World) (t:ByteArray),Below w2.heap.size w2 W->Hid (t.data.toList=r.data.toList.drop (Lz.leadS true r.data.toList))->Calls Tryz.prog 58 #[.pointer (some ⟨M,0,none⟩),.string t] W (RMkE B M (Lz.hostedU u2 (r.data.toList.drop (Lz.leadS true r.data.toList))) W)):=Ih (fun W t hW ht=>by
       rw[<-ht.out];have hts:t.size<=r.size:=by rw[<-len_of_size t,ht.out];exact hx3
       exact hostedM_any B M u2 t (by omega) W (hE2.below hW) (hmi.below hW) (Nat.le_trans hB2 hW.size) hBg (by omega))
      cases b with
      | none=>
        have hbn:bv=.pointer none:=Hbv2.out;subst hbn;have HG:Hid (goal=Lz.hostedU u2 (r.data.toList.drop (Lz.leadS true r.data.toList))):=Ih HU5.out;clear HU4 HU5 Hbv2
        go_wp2_with fail
        refine cT.out.mono ?_;rintro e w4 ⟨tb,rfl,htb,hb4⟩;have hb04:=hb02.trans (hb4.mono hB2);have cH2:=Ih (cH.out w4 tb hb4 htb)
        go_wp2_with fail
        refine cH2.out.mono ?_;rintro e w3 ⟨v,rfl,hb3,hres⟩
        go_wp2_with fail
        go_ret;refine⟨_,rfl,hb04.trans hb3,?_⟩;rw[HG.out];exact hres
      | some y=>
        obtain⟨p,fr,sch,usr,pas,hh,hst,prt,opq,a2,c,xs,hq2,hf2,qry,frg,rfl,hpB,hrow,hy,hcells⟩:=Hbv2.out;have d0:=rowAt hrow 0 (.string sch) rfl;have hys:y.scheme=sch.data.toList:=by rw[hy]
        have hK:=base_kept (sch:=sch) (usr:=usr) (pas:=pas) (hh:=hh) (hst:=hst) (prt:=prt) (opq:=opq) (c:=c) (hq:=hq2) (hf:=hf2) (qry:=qry) (frg:=frg) hB2 hcells;rw[<-hy]at hK;have hyL:=hL y rfl;have hst2:=same_text sch a;have cR:=Ih (relM_any B M u2 y _ r (by omega) w2 hE2 hmi hB2 hBg hK (by omega) (by omega))
        have HU6:Hid (goal=if sch.data.toList=a.data.toList/\p2=false then Lz.relU u2 y r.data.toList else Lz.hostedU u2 (r.data.toList.drop (Lz.leadS true r.data.toList))):=by
         show _=_;rw[HU5.out,spcU,hys,Hp2.out]
        clear HU4 HU5 Hbv2 hy hys hcells hK;by_cases hsa:sch.data.toList=a.data.toList
        ·rw[decide_eq_true hsa]at hst2;cases p2 with
         | false=>
           have HG:Hid (goal=Lz.relU u2 y r.data.toList):=by show _=_;rw[HU6.out,if_pos ⟨hsa,rfl⟩]
           clear HU6 hsa
           go_wp2_with fail
           refine(cP2.out _).mono ?_;rintro e w4 ⟨rfl,rfl⟩
           go_wp2_with (refine wpList_load_row rfl 25 (.tmp 122) rfl p rfl 25 _ fr _ hrow Tryz.underlying25 rfl urlSize ?_)
           refine cR.out.mono ?_;rintro e w3 ⟨v,rfl,hb3,hres⟩
           go_wp2_with fail
           go_ret;refine⟨_,rfl,hb02.trans hb3,?_⟩;rw[HG.out];exact hres
         | true=>
           have HG:Hid (goal=Lz.hostedU u2 (r.data.toList.drop (Lz.leadS true r.data.toList))):=by show _=_;rw[HU6.out,if_neg (by simp)]
           clear HU6 hsa
           go_wp2_with fail
           refine(cP2.out _).mono ?_;rintro e w4 ⟨rfl,rfl⟩
           go_wp2_with fail
           refine cT.out.mono ?_;rintro e w4 ⟨tb,rfl,htb,hb4⟩;have hb04:=hb02.trans (hb4.mono hB2);have cH2:=Ih (cH.out w4 tb hb4 htb)
           go_wp2_with fail
           refine cH2.out.mono ?_;rintro e w3 ⟨v,rfl,hb3,hres⟩
           go_wp2_with fail
           go_ret;refine⟨_,rfl,hb04.trans hb3,?_⟩;rw[HG.out];exact hres
        ·rw[decide_eq_false hsa]at hst2;have HG:Hid (goal=Lz.hostedU u2 (r.data.toList.drop (Lz.leadS true r.data.toList))):=by show _=_;rw[HU6.out,if_neg (fun h=>hsa h.1)]
         clear HU6 hsa
         go_wp2_with fail
         refine cT.out.mono ?_;rintro e w4 ⟨tb,rfl,htb,hb4⟩;have hb04:=hb02.trans (hb4.mono hB2);have cH2:=Ih (cH.out w4 tb hb4 htb)
         go_wp2_with fail
         refine cH2.out.mono ?_;rintro e w3 ⟨v,rfl,hb3,hres⟩
         go_wp2_with fail
         go_ret;refine⟨_,rfl,hb04.trans hb3,?_⟩;rw[HG.out];exact hres
    | false=>
      have HU5:Hid (goal=plnU u2 r.data.toList):=Ih HU4.out;clear HU4;cases p2 with
      | true=>
        have h2l:2<=r.size:=by rw[<-len_of_size];exact hasPrefix_le Hp2.out.symm
        have h2I:(2:Int)<=(r.size:Int):=by omega
        have HG:Hid (goal=Lz.hostedU u2 (r.extract 2 r.size).data.toList):=by show _=_;rw[HU5.out,plnU,<-Hp2.out,if_pos rfl,extract_from]
        have cH:=Ih (hostedM_any B M u2 (r.extract 2 r.size) (by have:=extract_size_le' r 2 r.size;omega) w2 hE2 hmi hB2 hBg (by omega));clear HU5
        go_wp2_with fail
        refine(cP2.out _).mono ?_;rintro e w4 ⟨rfl,rfl⟩
        go_wp2_with fail
        refine cH.out.mono ?_;rintro e w3 ⟨v,rfl,hb3,hres⟩
        go_wp2_with fail
        go_ret;refine⟨_,rfl,hb02.trans hb3,?_⟩;rw[HG.out];exact hres
      | false=>
        have cP1:=Ih (fun W=>HasPrefix_c r ⟨#[47]⟩ W);obtain⟨p1,hp1'⟩:∃p1,p1=Lib.hasPrefix r.data.toList [47]:=⟨_,rfl⟩;rw[show Lib.hasPrefix r.data.toList (⟨#[47]⟩:ByteArray).data.toList=p1 from hp1'.symm]at cP1;have Hp1:=Ih hp1';clear hp1';cases p1 with
        | true=>
          have h1l:1<=r.size:=by rw[<-len_of_size];exact hasPrefix_le Hp1.out.symm
          have h1I:(1:Int)<=(r.size:Int):=by omega
          have HG:Hid (goal=.ok (Lz.onP u2 (r.extract 1 r.size).data.toList)):=by show _=_;rw[HU5.out,plnU,<-Hp2.out,if_neg (by simp),<-Hp1.out,if_pos rfl,extract_from]
          have cO:=Ih (on_any B M (r.extract 1 r.size) u2 w2 hE2 hmi hB2 hBg (by have:=extract_size_le' r 1 r.size;omega));clear HU5
          go_wp2_with fail
          refine(cP2.out _).mono ?_;rintro e w4 ⟨rfl,rfl⟩
          go_wp2_with fail
          refine(cP1.out _).mono ?_;rintro e w4 ⟨rfl,rfl⟩
          go_wp2_with fail
          refine cO.out.mono ?_;rintro e w5 ⟨rfl,hb5,hm5⟩
          go_wp2_with fail
          go_ret;refine⟨_,rfl,hb02.trans hb5,?_⟩;rw[HG.out];exact⟨rfl,hm5⟩
        | false=>
          have HG:Hid (goal=.ok {u2 with opq:=true,path:=[Lz.encodeP [] r.data.toList]}):=by show _=_;rw[HU5.out,plnU,<-Hp2.out,if_neg (by simp),<-Hp1.out,if_neg (by simp)]
          obtain⟨v6,c6,f6⟩:=mk_cell hmi 6 (by decide);obtain⟨hb3,hm3⟩:=mk_opq hmi hb02 true;have hB3:B<=(w2.setCell ⟨M,6,none⟩ (.bool true)).heap.size:=Nat.le_trans hB hb3.size;have cE:=Ih (Encode_any 0 (by decide) r (by omega) (w2.setCell ⟨M,6,none⟩ (.bool true)));clear HU5
          go_wp2_with fail
          refine(cP2.out _).mono ?_;rintro e w4 ⟨rfl,rfl⟩
          go_wp2_with fail
          refine(cP1.out _).mono ?_;rintro e w4 ⟨rfl,rfl⟩
          go_wp2_with fail
          refine cE.out.mono ?_;rintro e w5 ⟨eb,rfl,heb,hb5⟩;have hm5:=hm3.below hb5;have hb05:=hb3.trans (hb5.mono hB3);have hB5:B<=w5.heap.size:=Nat.le_trans hB hb05.size;have hba:Below w5.heap.size w5 (w5.alloc (.cells #[.string eb] 9)):=(Below.refl _ _).alloc (Nat.le_refl _) _;obtain⟨hb6,hm6⟩:=mk_path (hm5.below hba) (hb05.trans (hba.mono hB5)) (path_one w5 B eb);obtain⟨v7,c7,f7⟩:=mk_cell (hm5.below hba) 7 (by decide)
          have HF:Hid (MkIs B M ((w5.alloc (.cells #[.string eb] 9)).setCell ⟨M,7,none⟩ (.slice (some ⟨w5.heap.size,0,none⟩) 1 1)) {u2 with opq:=true,path:=[Lz.encodeP [] r.data.toList]}):=by
           have h1:([eb].map (fun x:ByteArray=>x.data.toList))=[Lz.encodeP [] r.data.toList]:=by
            show[eb.data.toList]=_;rw[heb.out];rfl
           rw[h1]at hm6;exact hm6
          have Hb6:=Ih hb6;clear hm6 hb6 hm5 heb hm3
          go_wp2_with fail
          go_ret;refine⟨_,rfl,Hb6.out,?_⟩;rw[HG.out];exact⟨rfl,HF.out⟩
 | false=>
   have hU:=mainU_no u s.data.toList b hok;rw[<-hgoal]at hU;rw[schemedP_no hok]at cS;have CS:=Ih cS;have HE:=Ih hE;clear hgoal cS hscl hok hE;cases b with
   | none=>
     have hbn:bv=.pointer none:=hbv;subst hbn;have HG:Hid (goal=.er 82):=Ih hU;clear hU hm hx;go_enter Tryz.func29,Tryz.ntmps29
     go_wp2_with fail
     refine CS.out.mono ?_;rintro e w1 ⟨a,r,rfl,ha,hr,hb1⟩;have hbB:=hb1.mono hB
     go_wp2_with fail
     go_ret;refine⟨_,rfl,hbB,?_⟩;rw[HG.out];exact⟨_,rfl⟩
   | some y=>
     simp only at hU;have hyL:=hL y rfl;obtain⟨p,fr,sch,usr,pas,hh,hst,prt,opq,a2,c,xs,hq2,hf2,qry,frg,rfl,hpB,hrow,hy,hcells⟩:=hbv;have hys:y.scheme=sch.data.toList:=by rw[hy]
     have hyo:y.opq=opq:=by rw[hy]
     obtain⟨xsch,xusr,xpas,xhh,xhst,xprt,xopq,xpv,xxs,xhq,xhf,xqry,xfrg⟩:=x;have huq:u.hasQuery=xhq:=by rw[<-hx];rfl
     have huf:u.hasFragment=xhf:=by rw[<-hx];rfl
     rw[hys,hyo]at hU;have HU:=Ih hU;have Huq:=Ih huq;have Huf:=Ih huf
     have hrun:Hid (∀(w1:World),Below w.heap.size w w1->Below B w w1/\B<=w1.heap.size/\EnvH w1/\w1.heap[p]? =some (.cells #[.string sch,.string usr,.string pas,.bool hh,.string hst,.int .i64 prt,.bool opq,.slice a2 xs.length c,.bool hq2,.bool hf2,.string qry,.string frg] 25 fr)/\MkAt B M w1 ⟨xsch,xusr,xpas,xhh,xhst,xprt,xopq,xpv,xxs,xhq,xhf,xqry,xfrg⟩ false ⟨#[]⟩):=
      Ih (fun w1 hb=>⟨hb.mono hB,Nat.le_trans hB hb.size,HE.out.below hb,(hb.block p (Nat.lt_of_lt_of_le hpB hB)).trans hrow,hm.below hb⟩)
     have hbase:Hid (∀w2,Below B w w2->BaseAt B w2 (.pointer (some ⟨p,0,none⟩)) (some y)):=Ih (fun w2 hb=>BaseAt.at (b:=some y) ⟨p,fr,sch,usr,pas,hh,hst,prt,opq,a2,c,xs,hq2,hf2,qry,frg,rfl,hpB,hrow,hy,hcells⟩ hb);have hkept:Hid (UrlKept B w (.agg #[.string sch,.string usr,.string pas,.bool hh,.string hst,.int .i64 prt,.bool opq,.slice a2 xs.length c,.bool hq2,.bool hf2,.string qry,.string frg]) y):=Ih (by rw[hy];exact base_kept hB hcells);clear hU hys hyo huq huf hrow hm hy hcells;have hsch:Hid (({u with scheme:=sch.data.toList}:Lz.UrlL)=({sch:=sch,usr:=xusr,pas:=xpas,hh:=xhh,hst:=xhst,prt:=xprt,opq:=xopq,pv:=xpv,xs:=xxs,hq:=xhq,hf:=xhf,qry:=xqry,frg:=xfrg}:MkV).url):=Ih (by rw[<-hx];rfl);clear hx;cases opq with
     | false=>
       have HU2:Hid (goal=if sch.data.toList=Lz.fileS then Lz.filesU {u with scheme:=sch.data.toList} (some y) s.data.toList else Lz.relU {u with scheme:=sch.data.toList} y s.data.toList):=Ih HU.out;go_enter Tryz.func29,Tryz.ntmps29
       go_wp2_with fail
       refine CS.out.mono ?_;rintro e w1 ⟨a,r,rfl,ha,hr,hb1⟩;obtain⟨hbB,hB1,hE1,hrow1,hm1⟩:=hrun.out w1 hb1;have d6:=rowAt hrow1 6 (.bool false) rfl;have d0:=rowAt hrow1 0 (.string sch) rfl;have hrs:r.size<=s.size:=by rw[<-len_of_size r,hr.out,len_of_size];exact Nat.le_refl _
       have cA:=Ih (as_any B M _ false ⟨#[]⟩ sch w1 hm1);have Hr:Hid (r.data.toList=s.data.toList):=Ih hr.out;clear ha hr hm1 HU
       go_wp2_with fail
       refine cA.out.mono ?_;rintro e w2 ⟨rfl,hb2,hm2⟩;have hb02:=hbB.trans hb2;have hB2:B<=w2.heap.size:=Nat.le_trans hB hb02.size;have hE2:=HE.out.at hb02 hBg;have hmi:MkIs B M w2 {u with scheme:=sch.data.toList}:=⟨_,hm2,Ih hsch.out.symm⟩;have hrow2:w2.heap[p]? =_:=(hb2.block p hpB).trans hrow1;have e6:=rowAt hrow2 6 (.bool false) rfl;by_cases hf:sch.data.toList=Lz.fileS
       ·have g0:=text_yes (k:=[102,105,108,101]) hf;have HG:Hid (goal=Lz.filesU {u with scheme:=sch.data.toList} (some y) r.data.toList):=by show _=_;rw[HU2.out,if_pos hf,Hr.out]
        have cF:=Ih (filesM_any B M {u with scheme:=sch.data.toList} (some y) _ r (by omega) w2 hE2 hmi hB2 hBg (hbase.out w2 hb02) (fun z hz=>by have:=hL z hz;omega) (by show u.path.length<=_;omega) hf);clear HU2 hf hm2
        go_wp2_with fail
        refine cF.out.mono ?_;rintro e w3 ⟨v,rfl,hb3,hres⟩
        go_wp2_with fail
        go_ret;refine⟨_,rfl,hb02.trans hb3,?_⟩;rw[HG.out];exact hres
       ·have g0:=text_no (k:=[102,105,108,101]) hf;have HG:Hid (goal=Lz.relU {u with scheme:=sch.data.toList} y r.data.toList):=by show _=_;rw[HU2.out,if_neg hf,Hr.out]
        have cR:=Ih (relM_any B M {u with scheme:=sch.data.toList} y _ r (by omega) w2 hE2 hmi hB2 hBg (hkept.out.at hb02) (by omega) (by show u.path.length<=_;omega));clear HU2 hf hm2
        go_wp2_with (refine wpList_load_row rfl 25 (.tmp 96) rfl p rfl 25 _ fr _ hrow2 Tryz.underlying25 rfl urlSize ?_)
        refine cR.out.mono ?_;rintro e w3 ⟨v,rfl,hb3,hres⟩
        go_wp2_with fail
        go_ret;refine⟨_,rfl,hb02.trans hb3,?_⟩;rw[HG.out];exact hres
     | true=>
       by_cases hall:s.data.toList=[]/\xhq=false/\xhf=true
       ·obtain⟨he,rfl,rfl⟩:=hall;have g0:=text_yes he;have hem:s.toList.isEmpty=true:=isEmpty_of_size (by rw[<-len_of_size,he];rfl);have HG:Hid (goal=.ok (Lz.pathU {u with scheme:=sch.data.toList,opq:=true} y (⟨#[]⟩:ByteArray).data.toList)):=by show _=_;rw[HU.out,if_neg (by rw[he,Huq.out,Huf.out];simp),if_pos rfl]
        clear he;go_enter Tryz.func29,Tryz.ntmps29
        go_wp2_with fail
        refine CS.out.mono ?_;rintro e w1 ⟨a,r,rfl,ha,hr,hb1⟩;obtain⟨hbB,hB1,hE1,hrow1,hm1⟩:=hrun.out w1 hb1;have d6:=rowAt hrow1 6 (.bool true) rfl;have d0:=rowAt hrow1 0 (.string sch) rfl;have m8:=rowAt hm1.row 8 (.bool false) rfl;have m9:=rowAt hm1.row 9 (.bool true) rfl;have cA:=Ih (as_any B M _ false ⟨#[]⟩ sch w1 hm1);clear ha hr hm1 HU
        go_wp2_with fail
        refine cA.out.mono ?_;rintro e w2 ⟨rfl,hb2,hm2⟩;have hb02:=hbB.trans hb2;have hB2:B<=w2.heap.size:=Nat.le_trans hB hb02.size;have hmi:MkIs B M w2 {u with scheme:=sch.data.toList}:=⟨_,hm2,Ih hsch.out.symm⟩;have hrow2:w2.heap[p]? =_:=(hb2.block p hpB).trans hrow1;have e6:=rowAt hrow2 6 (.bool true) rfl;obtain⟨v6,c6,f6⟩:=mk_cell hmi 6 (by decide);obtain⟨hb3,hm3⟩:=mk_opq hmi hb02 true;have hbs:Below B w2 (w2.setCell ⟨M,6,none⟩ (.bool true)):=(Below.refl B w2).setCell (p:=⟨M,6,none⟩) hm2.le _;have hrow3:(w2.setCell ⟨M,6,none⟩ (.bool true)).heap[p]? =_:=(hbs.block p hpB).trans hrow2;have cP:=Ih (pathM_any B M _ y _ ⟨#[]⟩ _ (HE.out.at hb3 hBg) hm3 (Nat.le_trans hB hb3.size) hBg (hkept.out.at hb3).now (by show y.path.length+0<=_;omega));clear hm2 hm3 hmi
        go_wp2_with (refine wpList_load_row rfl 25 (.tmp 81) rfl p rfl 25 _ fr _ hrow3 Tryz.underlying25 rfl urlSize ?_)
        refine cP.out.mono ?_;rintro e w4 ⟨rfl,hb4,hm4⟩
        go_wp2_with fail
        go_ret;refine⟨_,rfl,hb3.trans hb4,?_⟩;rw[HG.out];exact⟨rfl,hm4⟩
       ·have hcond:(!s.data.toList.isEmpty||xhq|| !xhf)=true:=by
         cases hl:s.data.toList with
         | cons c r=>rfl
         | nil=>
           cases xhq with
           | true=>rfl
           | false=>
             cases xhf with
             | false=>rfl
             | true=>exact absurd ⟨hl,rfl,rfl⟩ hall
        have HG:Hid (goal=.er 82):=by show _=_;rw[HU.out,if_pos (by rw[Bool.true_and,Huq.out,Huf.out];exact hcond)]
        by_cases he:s.data.toList=[]
        ·have g0:=text_yes he;have hem:s.toList.isEmpty=true:=isEmpty_of_size (by rw[<-len_of_size,he];rfl);cases xhq with
         | true=>
           clear he hall hcond HU;go_enter Tryz.func29,Tryz.ntmps29
           go_wp2_with fail
           refine CS.out.mono ?_;rintro e w1 ⟨a,r,rfl,ha,hr,hb1⟩;obtain⟨hbB,hB1,hE1,hrow1,hm1⟩:=hrun.out w1 hb1;have d6:=rowAt hrow1 6 (.bool true) rfl;have m8:=rowAt hm1.row 8 (.bool true) rfl
           go_wp2_with fail
           go_ret;refine⟨_,rfl,hbB,?_⟩;rw[HG.out];exact⟨_,rfl⟩
         | false=>
           have hxf:xhf=false:=by
            cases xhf with
            | false=>rfl
            | true=>exact absurd ⟨he,rfl,rfl⟩ hall
           subst hxf;clear he hall hcond HU;go_enter Tryz.func29,Tryz.ntmps29
           go_wp2_with fail
           refine CS.out.mono ?_;rintro e w1 ⟨a,r,rfl,ha,hr,hb1⟩;obtain⟨hbB,hB1,hE1,hrow1,hm1⟩:=hrun.out w1 hb1;have d6:=rowAt hrow1 6 (.bool true) rfl;have m8:=rowAt hm1.row 8 (.bool false) rfl;have m9:=rowAt hm1.row 9 (.bool false) rfl
           go_wp2_with fail
           go_ret;refine⟨_,rfl,hbB,?_⟩;rw[HG.out];exact⟨_,rfl⟩
        ·have g0:=text_no he;have hem:s.toList.isEmpty=false:=isEmpty_of_pos (by rw[<-len_of_size];exact List.length_pos_iff.2 he);clear he hall hcond HU;go_enter Tryz.func29,Tryz.ntmps29
         go_wp2_with fail
         refine CS.out.mono ?_;rintro e w1 ⟨a,r,rfl,ha,hr,hb1⟩;obtain⟨hbB,hB1,hE1,hrow1,hm1⟩:=hrun.out w1 hb1;have d6:=rowAt hrow1 6 (.bool true) rfl
         go_wp2_with fail
         go_ret;refine⟨_,rfl,hbB,?_⟩;rw[HG.out];exact⟨_,rfl⟩
theorem BaseAt.mono {B B':Nat} {w:World} {bv:Value} {b:Option Lz.UrlL} (h:BaseAt B w bv b) (hB:B<=B'):BaseAt B' w bv b:=by
 cases b with
 | none=>exact h
 | some u=>
   obtain⟨p,fr,sch,usr,pas,hh,hst,prt,opq,a,c,xs,hq,hf,qry,frg,h1,h2,h3,h4,h5⟩:=h;refine⟨p,fr,sch,usr,pas,hh,hst,prt,opq,a,c,xs,hq,hf,qry,frg,h1,by omega,h3,h4,fun j x hj=>?_⟩;obtain⟨G,off,e1,e2,e3⟩:=h5 j x hj;exact⟨G,off,e1,by omega,e3⟩
theorem UrlVal.below {w w':World} {v:Value} {u:Lz.UrlL} (h:UrlVal w v u) (hb:Below w.heap.size w w'):UrlVal w' v u:=by
 obtain⟨x,h1,h2,h3⟩:=h;exact⟨x,h1,h2.below hb,h3⟩
def UrlOwn (w:World) (v:Value) (u:Lz.UrlL):Prop:=∃(B:Nat) (x:MkV),v=x.val/\PathOwn w B x.pv x.xs/\Hid (x.url=u)
theorem UrlOwn.val {w:World} {v:Value} {u:Lz.UrlL} (h:UrlOwn w v u):UrlVal w v u:=by
 obtain⟨B,x,h1,h2,h3⟩:=h;obtain⟨a,c,e,_,hc⟩:=h2.form;exact⟨x,h1,⟨a,c,x.xs,e,rfl,hc⟩,h3⟩
theorem UrlOwn.below {w w':World} {v:Value} {u:Lz.UrlL} (h:UrlOwn w v u) (hb:Below w.heap.size w w'):UrlOwn w' v u:=by
 obtain⟨B,x,h1,h2,h3⟩:=h;exact⟨B,x,h1,h2.below hb,h3⟩
def zeroU:Lz.UrlL:={port:=0}
def UrlRes (r:Lz.UR) (w:World) (v1 v2:Value):Prop:=match r with
 | .ok u=>v2=.nilIface/\UrlOwn w v1 u
 | .er n=>FaultU n v2/\UrlOwn w v1 zeroU
def RRead (r:Lz.UR) (w:World) (e:Ending) (w':World):Prop:=∃v1 v2,e=.returned (.tuple #[v1,v2])/\Below w.heap.size w w'/\UrlRes r w' v1 v2
theorem heap_new (w:World) (o:Obj):(w.alloc o).heap[w.heap.size]? =some o:=by show(w.heap.push _)[w.heap.size]? =_;simp
theorem heap_new2 (w:World) (o o2:Obj):((w.alloc o).alloc o2).heap[w.heap.size+1]? =some o2:=by
 have:=heap_new (w.alloc o) o2
 rwa [show(w.alloc o).heap.size=w.heap.size+1 by simp]at this
theorem grown_setRow (w:World) (g:Nat) (cs:Array Value):w.grownBy (w.setRow g cs) (some g):=
 ⟨rfl,rfl,rfl,by simp[World.setRow],fun k _ hk=>setRow_other _ _ _ _ (fun e=>hk (by rw[e]))⟩
theorem below_setRow {B g:Nat} {a w:World} (h:Below B a w) {cs:Array Value} (hg:B<=g):Below B a (w.setRow g cs):=
 ⟨h.os,h.tape,h.output,by rw[show(w.setRow g cs).heap.size=w.heap.size by simp[World.setRow]];exact h.size,fun k hk=>by rw[setRow_other _ _ _ _ (by omega)];exact h.block k hk⟩
theorem UrlOwn.setRow {w:World} {v:Value} {u:Lz.UrlL} (h:UrlOwn w v u) {r:Nat} {cs:Array Value} {fr:Nat×Nat} (hr:w.heap[r]? =some (.cells cs 25 fr)) (cs':Array Value):UrlOwn (w.setRow r cs') v u:=by
 obtain⟨B,x,h1,h2,h3⟩:=h;exact⟨B,x,h1,h2.kept (grown_setRow w r cs') (fun k hk=>by injection hk with hk;subst hk;exact⟨_,_,_,hr,by decide⟩),h3⟩
theorem readU_eq (s:List UInt8) (b:Option Lz.UrlL):Lz.readU s b=(Lz.mainU {query:=(Lib.cut (Lib.cut (Lz.cleanP s) [35]).1 [63]).2.1,hasQuery:=(Lib.cut (Lib.cut (Lz.cleanP s) [35]).1 [63]).2.2,fragment:=(Lib.cut (Lz.cleanP s) [35]).2.1,hasFragment:=(Lib.cut (Lz.cleanP s) [35]).2.2} (Lib.cut (Lib.cut (Lz.cleanP s) [35]).1 [63]).1 b).bind Lz.finU:=rfl
theorem mk_query {B M:Nat} {w w1:World} {u:Lz.UrlL} (hm:MkIs B M w1 u) (hb:Below B w w1) (h:ByteArray):
  Below B w (w1.setCell ⟨M,10,none⟩ (.string h))/\MkIs B M (w1.setCell ⟨M,10,none⟩ (.string h)) {u with query:=h.data.toList}:=by
 obtain⟨sch,usr,pas,hh,hst,prt,opq,a,c,ys,hq,hf,qry,frg,hk,rfl,hc,hcells⟩:=hm.form;exact⟨hb.setCell (p:=⟨M,10,none⟩) hk.le _,_,mk_set hk 10 (.string h) ⟨sch,usr,pas,hh,hst,prt,opq,.slice a ys.length c,ys,hq,hf,h,frg⟩ (Lz.specP sch.data.toList) (slashB (Lz.specP sch.data.toList)) (by simp) (fun _ h=>h),Ih rfl⟩
theorem mk_frag {B M:Nat} {w w1:World} {u:Lz.UrlL} (hm:MkIs B M w1 u) (hb:Below B w w1) (h:ByteArray):
  Below B w (w1.setCell ⟨M,11,none⟩ (.string h))/\MkIs B M (w1.setCell ⟨M,11,none⟩ (.string h)) {u with fragment:=h.data.toList}:=by
 obtain⟨sch,usr,pas,hh,hst,prt,opq,a,c,ys,hq,hf,qry,frg,hk,rfl,hc,hcells⟩:=hm.form;exact⟨hb.setCell (p:=⟨M,11,none⟩) hk.le _,_,mk_set hk 11 (.string h) ⟨sch,usr,pas,hh,hst,prt,opq,.slice a ys.length c,ys,hq,hf,qry,h⟩ (Lz.specP sch.data.toList) (slashB (Lz.specP sch.data.toList)) (by simp) (fun _ h=>h),Ih rfl⟩
theorem mk_qf {B M:Nat} {w:World} {u:Lz.UrlL} (hm:MkIs B M w u):∃q f:ByteArray,w.cell? ⟨M,10,none⟩=some (.string q)/\q.data.toList=u.query/\w.cell? ⟨M,11,none⟩=some (.string f)/\f.data.toList=u.fragment:=by
 obtain⟨sch,usr,pas,hh,hst,prt,opq,a,c,ys,hq,hf,qry,frg,hk,rfl,hc,hcells⟩:=hm.form;exact⟨qry,frg,rowAt hk.row 10 _ rfl,rfl,rowAt hk.row 11 _ rfl,rfl⟩
theorem read_any (b:Option Lz.UrlL) (bv:Value) (s:ByteArray) (hs:s.size<=800000) (w:World) (hE:EnvU w) (hbv:BaseAt w.heap.size w bv b) (hN:∀y,b=some y->Lz.NU y/\Lz.wq y<=20000000):
  Calls Tryz.prog 16 #[.string s,bv] w (RRead (Lz.readU s.data.toList b) w):=by
 obtain⟨goal,hgoal⟩:∃goal,goal=Lz.readU s.data.toList b:=⟨_,rfl⟩;rw[<-hgoal];rw[readU_eq]at hgoal;have hcl:=Lz.clean_len s.data.toList;have hparts:=fun v hv=>Lz.main_parts (s:=s.data.toList) (b:=b) (v:=v) hv (fun y hy=>(hN y hy).1)
 have hbq:Lz.bq b<=20000000:=by
  cases b with
  | none=>exact Nat.zero_le _
  | some y=>exact(hN y rfl).2
 have hf1:=Lz.cut_len 35 (Lz.cleanP s.data.toList);have hq1:=Lz.cut_len 63 (Lib.cut (Lz.cleanP s.data.toList) [35]).1;obtain⟨W,hW⟩:∃W,W=(w.alloc (.cells #[.string ⟨#[]⟩,.string ⟨#[]⟩,.string ⟨#[]⟩,.bool false,.string ⟨#[]⟩,.int .i64 0,.bool false,.slice none 0 0,.bool false,.bool false,.string ⟨#[]⟩,.string ⟨#[]⟩] 25)).alloc (.cells #[.string ⟨#[]⟩,.string ⟨#[]⟩,.string ⟨#[]⟩,.bool false,.string ⟨#[]⟩,.int .i64 (-1),.bool false,.slice none 0 0,.bool false,.bool false,.string ⟨#[]⟩,.string ⟨#[]⟩,.bool false,.string ⟨#[]⟩] 52):=⟨_,rfl⟩;have hbW:Below w.heap.size w W:=by rw[hW];exact((Below.refl _ w).alloc (Nat.le_refl _) _).alloc (by simp) _
 have hR:W.heap[w.heap.size]? =some (.cells #[.string ⟨#[]⟩,.string ⟨#[]⟩,.string ⟨#[]⟩,.bool false,.string ⟨#[]⟩,.int .i64 0,.bool false,.slice none 0 0,.bool false,.bool false,.string ⟨#[]⟩,.string ⟨#[]⟩] 25 (0,0)):=by
  rw[hW,Below.heap_alloc _ _ _ (by simp)];show(w.heap.push _)[w.heap.size]? =_;simp
 obtain⟨M,hM⟩:∃M,M=w.heap.size+1:=⟨_,rfl⟩
 have hMrow:W.heap[M]? =some (.cells #[.string ⟨#[]⟩,.string ⟨#[]⟩,.string ⟨#[]⟩,.bool false,.string ⟨#[]⟩,.int .i64 (-1),.bool false,.slice none 0 0,.bool false,.bool false,.string ⟨#[]⟩,.string ⟨#[]⟩,.bool false,.string ⟨#[]⟩] 52 (0,0)):=by
  rw[hW,hM];exact heap_new2 w _ _
 obtain⟨B,hBd⟩:∃B,B=w.heap.size+1:=⟨_,rfl⟩;have hm0:MkAt B M W ⟨⟨#[]⟩,⟨#[]⟩,⟨#[]⟩,false,⟨#[]⟩,-1,false,.slice none 0 0,[],false,false,⟨#[]⟩,⟨#[]⟩⟩ false ⟨#[]⟩:=⟨hMrow,PathOwn.nil _ _,by omega⟩;have hwB:w.heap.size<B:=by omega
 have hBW:B<=W.heap.size:=by have:=row_lt hMrow;omega
 have hEW:=hE.below hbW;have hBg:9<=B:=by have:=hE.h.size;omega
 have hbvW:BaseAt B W bv b:=(hbv.at hbW).mono (by omega);have cC:=Ih (clean_any s (by omega) W hEW);have HW:=Ih hW;have HM:Hid (M=w.heap.size+1):=Ih hM;have HR:=Ih hR;have Hgoal:=Ih hgoal;have Hparts:=Ih hparts;have HE:=Ih hE;have Hf1:=Ih hf1;have Hq1:=Ih hq1;clear hW hR hgoal hparts hE hMrow hf1 hq1 hbv hM hBd;go_enter Tryz.func16,Tryz.ntmps16
 go_wp2_with (rw[<-HW.out])
 rw[<-HM.out];refine cC.out.mono ?_;rintro e w1 ⟨u1,rfl,hu1,hb1⟩;have hu1s:u1.size<=s.size:=by rw[<-len_of_size,hu1.out];rw[len_of_size]at hcl;exact hcl
 have cF:=Ih (Cut_h u1 ⟨#[35]⟩ (by omega) w1 (hEW.below hb1).h);rw[show Lib.cut u1.data.toList (⟨#[35]⟩:ByteArray).data.toList=Lib.cut (Lz.cleanP s.data.toList) [35] by rw[hu1.out]]at cF;obtain⟨hf,hhf⟩:∃hf,hf=(Lib.cut (Lz.cleanP s.data.toList) [35]).2.2:=⟨_,rfl⟩;rw[<-hhf]at cF;have Hhf:=Ih hhf;clear hhf
 go_wp2_with fail
 refine cF.out.mono ?_;rintro e w2 ⟨a1,f1,rfl,ha1,hf1,hb2⟩;have hb12:=below_call hb1 hb2;have hm2:=(hm0.below hb1).below hb2;have ha1s:a1.size<=s.size:=by rw[<-len_of_size,ha1.out];have:=Hf1.out;rw[len_of_size]at hcl;omega
 have c11:=rowAt hm2.row 11 (.string ⟨#[]⟩) rfl;have z11:=rowFz hm2.row 11;have m3:=mk_set hm2 11 (.string f1) ⟨⟨#[]⟩,⟨#[]⟩,⟨#[]⟩,false,⟨#[]⟩,-1,false,.slice none 0 0,[],false,false,⟨#[]⟩,f1⟩ false ⟨#[]⟩ (by simp) (fun _ h=>h);have c9:=rowAt m3.row 9 (.bool false) rfl;have z9:=rowFz m3.row 9;have m4:=mk_set m3 9 (.bool hf) ⟨⟨#[]⟩,⟨#[]⟩,⟨#[]⟩,false,⟨#[]⟩,-1,false,.slice none 0 0,[],false,hf,⟨#[]⟩,f1⟩ false ⟨#[]⟩ (by simp) (fun _ h=>h);have hle:=hm0.le;have hb24:Below B w2 ((w2.setCell ⟨M,11,none⟩ (.string f1)).setCell ⟨M,9,none⟩ (.bool hf)):=((Below.refl B w2).setCell (p:=⟨M,11,none⟩) hle _).setCell (p:=⟨M,9,none⟩) hle _;generalize hw4:(w2.setCell ⟨M,11,none⟩ (.string f1)).setCell ⟨M,9,none⟩ (.bool hf)=w4 at m4 hb24;have hb04:Below B W w4:=(hb12.mono hBW).trans hb24;have hE4:EnvH w4:=hEW.h.at hb04 hBg;have cQ:=Ih (Cut_h a1 ⟨#[63]⟩ (by omega) w4 hE4);rw[show Lib.cut a1.data.toList (⟨#[63]⟩:ByteArray).data.toList=Lib.cut (Lib.cut (Lz.cleanP s.data.toList) [35]).1 [63] by rw[ha1.out]]at cQ;obtain⟨hq,hhq⟩:∃hq,hq=(Lib.cut (Lib.cut (Lz.cleanP s.data.toList) [35]).1 [63]).2.2:=⟨_,rfl⟩;rw[<-hhq]at cQ;have Hhq:=Ih hhq;have Hm4:=Ih m4;clear hhq m3 m4 hm2 hm0 cC cF
 go_wp2_with fail
 refine cQ.out.mono ?_;rintro e w5 ⟨a2,q2,rfl,ha2,hq2,hb5⟩;have ha2s:a2.size<=s.size:=by rw[<-len_of_size,ha2.out];have:=Hq1.out;have:=Hf1.out;rw[len_of_size]at hcl;omega
 have hm5:=Hm4.out.below hb5;have hb05:Below B W w5:=hb04.trans (hb5.mono (Nat.le_trans hBW hb04.size));have c10:=rowAt hm5.row 10 (.string ⟨#[]⟩) rfl;have z10:=rowFz hm5.row 10;have m6:=mk_set hm5 10 (.string q2) ⟨⟨#[]⟩,⟨#[]⟩,⟨#[]⟩,false,⟨#[]⟩,-1,false,.slice none 0 0,[],false,hf,q2,f1⟩ false ⟨#[]⟩ (by simp) (fun _ h=>h);have c8:=rowAt m6.row 8 (.bool false) rfl;have z8:=rowFz m6.row 8;have m7:=mk_set m6 8 (.bool hq) ⟨⟨#[]⟩,⟨#[]⟩,⟨#[]⟩,false,⟨#[]⟩,-1,false,.slice none 0 0,[],hq,hf,q2,f1⟩ false ⟨#[]⟩ (by simp) (fun _ h=>h);have hb57:Below B w5 ((w5.setCell ⟨M,10,none⟩ (.string q2)).setCell ⟨M,8,none⟩ (.bool hq)):=((Below.refl B w5).setCell (p:=⟨M,10,none⟩) hle _).setCell (p:=⟨M,8,none⟩) hle _;generalize hw7:(w5.setCell ⟨M,10,none⟩ (.string q2)).setCell ⟨M,8,none⟩ (.bool hq)=w7 at m7 hb57;have hb07:Below B W w7:=hb05.trans hb57;have hB7:B<=w7.heap.size:=Nat.le_trans hBW hb07.size;have hE7:EnvH w7:=hEW.h.at hb07 hBg
 have HG:Hid (goal=(Lz.mainU ⟨[],[],[],false,[],-1,false,[],hq,hf,q2.data.toList,f1.data.toList⟩ a2.data.toList b).bind Lz.finU):=by
  show _=_;rw[Hgoal.out,<-Hhq.out,<-Hhf.out,<-ha2.out,<-hq2.out,<-hf1.out]
 have HP:Hid (∀v,Lz.mainU ⟨[],[],[],false,[],-1,false,[],hq,hf,q2.data.toList,f1.data.toList⟩ a2.data.toList b=.ok v->v.query.length<=s.data.toList.length+Lz.bq b/\v.fragment.length<=s.data.toList.length):=by
  intro v hv;refine Hparts.out v ?_;rw[<-Hhq.out,<-Hhf.out,<-ha2.out,<-hq2.out,<-hf1.out];exact hv
 have cM:=Ih (mainM_any B M _ _ rfl b bv a2 (by omega) w7 hE7 m7 hB7 hBg (hbvW.at hb07) (fun y hy=>by have h1:=(hN y hy).2;have:=Lz.path_wq y;omega) (by show 0<=_;omega));clear m6 m7 hm5 Hgoal Hparts Hhq Hhf ha2 hq2 hf1 ha1 hu1 cQ Hm4
 go_wp2_with fail
 refine cM.out.mono ?_;rintro e w8 ⟨v,rfl,hb8,hres⟩;have hb08:Below B W w8:=hb07.trans hb8;have hB8:B<=w8.heap.size:=Nat.le_trans hBW hb08.size;have HRm:Hid (MkRes B M (Lz.mainU ⟨[],[],[],false,[],-1,false,[],hq,hf,q2.data.toList,f1.data.toList⟩ a2.data.toList b) w8 v):=Ih hres;clear hres cM;generalize Lz.mainU ⟨[],[],[],false,[],-1,false,[],hq,hf,q2.data.toList,f1.data.toList⟩ a2.data.toList b=rm at HRm HG HP;have hR8:w8.heap[w.heap.size]? =_:=(hb08.block _ hwB).trans HR.out;cases rm with
 | er n=>
   obtain⟨pp,rfl⟩:=HRm.out;have HG2:Hid (goal=.er n):=Ih HG.out;clear HG HP HRm
   go_wp2_with (refine wpList_store_row rfl 25 (.tmp 4) (.tmp 47) rfl w.heap.size #[.string ⟨#[]⟩,.string ⟨#[]⟩,.string ⟨#[]⟩,.bool false,.string ⟨#[]⟩,.int .i64 0,.bool false,.slice none 0 0,.bool false,.bool false,.string ⟨#[]⟩,.string ⟨#[]⟩] rfl rfl 25 _ hR8 urlSize rfl (by simp[Value.oneCell']) ?_)
   refine bodyPost_ret (results_row2 (P:=Tryz.prog) (u:=5) rfl _ _ w.heap.size 25 _ (0,0) _ rfl (setRow_heap _ _ _ _ _ _ hR8) Tryz.underlying25 rfl urlSize) rfl ?_;refine⟨_,_,rfl,below_setRow (hbW.trans (hb08.mono (by omega))) (Nat.le_refl _),?_⟩;rw[HG2.out];exact⟨⟨pp,rfl⟩,0,⟨⟨#[]⟩,⟨#[]⟩,⟨#[]⟩,false,⟨#[]⟩,0,false,.slice none 0 0,[],false,false,⟨#[]⟩,⟨#[]⟩⟩,rfl,PathOwn.nil _ _,Ih rfl⟩
 | ok u2=>
   obtain⟨rfl,hm8⟩:=HRm.out;obtain⟨hql,hfl⟩:=HP.out u2 rfl;rw[len_of_size]at hql hfl;obtain⟨qb,fb,e10,hqb,e11,hfb⟩:=mk_qf hm8;have hqs:qb.size<=30000000:=by rw[<-len_of_size,hqb];omega
   have hqd:Hid (qb.data.toList=u2.query):=Ih hqb;have HG2:Hid (goal=(Lz.UR.ok u2).bind Lz.finU):=Ih HG.out;obtain⟨sp,hsp⟩:∃sp,sp=Lz.specP u2.scheme:=⟨_,rfl⟩;obtain⟨h12,h13⟩:=mk_sp hm8 hsp;have Hsp:=Ih hsp;clear HG HP HRm hqb hfb e11 hsp;cases sp with
   | true=>
     have HG3:Hid (goal=.ok {u2 with query:=Lz.encodeP (Lz.setU 3) u2.query,fragment:=Lz.encodeP (Lz.setU 1) u2.fragment}):=by
      show _=_;rw[HG2.out];show Lz.finU u2=_;unfold Lz.finU;rw[<-Hsp.out];rfl
     have cE:=Ih (Encode_any 3 (by decide) qb (by omega) w8)
     go_wp2_with fail
     refine cE.out.mono ?_;rintro e w9 ⟨qe,rfl,hqe,hb9⟩;have hm9:=hm8.below hb9;have hb09:Below B W w9:=hb08.trans (hb9.mono hB8);obtain⟨v10,e10,z10⟩:=mk_cell hm9 10 (by decide);obtain⟨hb10,hm10⟩:=mk_query hm9 hb09 qe;have hb910:Below B w9 (w9.setCell ⟨M,10,none⟩ (.string qe)):=(Below.refl B w9).setCell (p:=⟨M,10,none⟩) hle _;obtain⟨q3,f3,e10',_,e11,hf3⟩:=mk_qf hm10;clear e10';generalize hw10:w9.setCell ⟨M,10,none⟩ (.string qe)=w10 at hb10 hm10 hb910 e11;have hf3s:f3.size<=s.size:=by rw[<-len_of_size f3,hf3];exact hfl
     have cE2:=Ih (Encode_any 1 (by decide) f3 (by omega) w10);have HF3:Hid (f3.data.toList=u2.fragment):=Ih hf3;clear hf3
     go_wp2_with fail
     refine cE2.out.mono ?_;rintro e w11 ⟨fe,rfl,hfe,hb11⟩;have hm11:=hm10.below hb11;have hb011:Below B W w11:=hb10.trans (hb11.mono (Nat.le_trans hBW hb10.size));obtain⟨v11,d11,z11⟩:=mk_cell hm11 11 (by decide);obtain⟨hb12,hm12⟩:=mk_frag hm11 hb011 fe;have hRx:(w11.setCell ⟨M,11,none⟩ (.string fe)).heap[w.heap.size]? =_:=(hb12.block _ hwB).trans HR.out
     have hfin:({({u2 with query:=qe.data.toList}:Lz.UrlL)with fragment:=fe.data.toList}:Lz.UrlL)={u2 with query:=Lz.encodeP (Lz.setU 3) u2.query,fragment:=Lz.encodeP (Lz.setU 1) u2.fragment}:=by
      rw[hqe.out,hfe.out,hqd.out,HF3.out];rfl
     rw[hfin]at hm12;generalize hw12:w11.setCell ⟨M,11,none⟩ (.string fe)=w12 at hb12 hm12 hRx;obtain⟨sch,usr,pas,hh,hst,prt,opq,a,c,xs,hqx,hfx,qry,frg,hk,hux,hc,hcells⟩:=hm12.form;have k0:=rowAt hk.row 0 (.string sch) rfl;have k1:=rowAt hk.row 1 (.string usr) rfl;have k2:=rowAt hk.row 2 (.string pas) rfl;have k3:=rowAt hk.row 3 (.bool hh) rfl;have k4:=rowAt hk.row 4 (.string hst) rfl;have k5:=rowAt hk.row 5 (.int .i64 prt) rfl;have k6:=rowAt hk.row 6 (.bool opq) rfl;have k7:=rowAt hk.row 7 (.slice a xs.length c) rfl;have k8:=rowAt hk.row 8 (.bool hqx) rfl;have k9:=rowAt hk.row 9 (.bool hfx) rfl;have k10:=rowAt hk.row 10 (.string qry) rfl;have k11:=rowAt hk.row 11 (.string frg) rfl;have hown':=hk.own.kept (grown_setRow w12 w.heap.size #[.string sch,.string usr,.string pas,.bool hh,.string hst,.int .i64 prt,.bool opq,.slice a xs.length c,.bool hqx,.bool hfx,.string qry,.string frg]) (fun k hk=>by injection hk with hk;subst hk;exact⟨_,_,_,hRx,by decide⟩)
     have HFin:Hid (UrlOwn (w12.setRow w.heap.size #[.string sch,.string usr,.string pas,.bool hh,.string hst,.int .i64 prt,.bool opq,.slice a xs.length c,.bool hqx,.bool hfx,.string qry,.string frg]) (.agg #[.string sch,.string usr,.string pas,.bool hh,.string hst,.int .i64 prt,.bool opq,.slice a xs.length c,.bool hqx,.bool hfx,.string qry,.string frg]) {u2 with query:=Lz.encodeP (Lz.setU 3) u2.query,fragment:=Lz.encodeP (Lz.setU 1) u2.fragment}):=by
      exact⟨_,⟨sch,usr,pas,hh,hst,prt,opq,.slice a xs.length c,xs,hqx,hfx,qry,frg⟩,rfl,hown',Ih hux.symm⟩
     clear hown';clear hux hcells hk hm12 hm11 hm10 hm9 hfin
     go_wp2_with (refine wpList_store_row rfl 25 (.tmp 4) (.tmp 77) rfl w.heap.size #[.string sch,.string usr,.string pas,.bool hh,.string hst,.int .i64 prt,.bool opq,.slice a xs.length c,.bool hqx,.bool hfx,.string qry,.string frg] rfl rfl 25 _ hRx urlSize rfl (by simp[Value.oneCell']) ?_)
     refine bodyPost_ret (results_row2 (P:=Tryz.prog) (u:=5) rfl _ _ w.heap.size 25 _ (0,0) _ rfl (setRow_heap _ _ _ _ _ _ hRx) Tryz.underlying25 rfl urlSize) rfl ?_;refine⟨_,_,rfl,below_setRow (hbW.trans (hb12.mono (by omega))) (Nat.le_refl _),?_⟩;rw[HG3.out];exact⟨rfl,HFin.out⟩
   | false=>
     have HG3:Hid (goal=.ok {u2 with query:=Lz.encodeP (Lz.setU 2) u2.query,fragment:=Lz.encodeP (Lz.setU 1) u2.fragment}):=by
      show _=_;rw[HG2.out];show Lz.finU u2=_;unfold Lz.finU;rw[<-Hsp.out];rfl
     have cE:=Ih (Encode_any 2 (by decide) qb (by omega) w8)
     go_wp2_with fail
     refine cE.out.mono ?_;rintro e w9 ⟨qe,rfl,hqe,hb9⟩;have hm9:=hm8.below hb9;have hb09:Below B W w9:=hb08.trans (hb9.mono hB8);obtain⟨v10,e10,z10⟩:=mk_cell hm9 10 (by decide);obtain⟨hb10,hm10⟩:=mk_query hm9 hb09 qe;have hb910:Below B w9 (w9.setCell ⟨M,10,none⟩ (.string qe)):=(Below.refl B w9).setCell (p:=⟨M,10,none⟩) hle _;obtain⟨q3,f3,e10',_,e11,hf3⟩:=mk_qf hm10;clear e10';generalize hw10:w9.setCell ⟨M,10,none⟩ (.string qe)=w10 at hb10 hm10 hb910 e11;have hf3s:f3.size<=s.size:=by rw[<-len_of_size f3,hf3];exact hfl
     have cE2:=Ih (Encode_any 1 (by decide) f3 (by omega) w10);have HF3:Hid (f3.data.toList=u2.fragment):=Ih hf3;clear hf3
     go_wp2_with fail
     refine cE2.out.mono ?_;rintro e w11 ⟨fe,rfl,hfe,hb11⟩;have hm11:=hm10.below hb11;have hb011:Below B W w11:=hb10.trans (hb11.mono (Nat.le_trans hBW hb10.size));obtain⟨v11,d11,z11⟩:=mk_cell hm11 11 (by decide);obtain⟨hb12,hm12⟩:=mk_frag hm11 hb011 fe;have hRx:(w11.setCell ⟨M,11,none⟩ (.string fe)).heap[w.heap.size]? =_:=(hb12.block _ hwB).trans HR.out
     have hfin:({({u2 with query:=qe.data.toList}:Lz.UrlL)with fragment:=fe.data.toList}:Lz.UrlL)={u2 with query:=Lz.encodeP (Lz.setU 2) u2.query,fragment:=Lz.encodeP (Lz.setU 1) u2.fragment}:=by
      rw[hqe.out,hfe.out,hqd.out,HF3.out];rfl
     rw[hfin]at hm12;generalize hw12:w11.setCell ⟨M,11,none⟩ (.string fe)=w12 at hb12 hm12 hRx;obtain⟨sch,usr,pas,hh,hst,prt,opq,a,c,xs,hqx,hfx,qry,frg,hk,hux,hc,hcells⟩:=hm12.form;have k0:=rowAt hk.row 0 (.string sch) rfl;have k1:=rowAt hk.row 1 (.string usr) rfl;have k2:=rowAt hk.row 2 (.string pas) rfl;have k3:=rowAt hk.row 3 (.bool hh) rfl;have k4:=rowAt hk.row 4 (.string hst) rfl;have k5:=rowAt hk.row 5 (.int .i64 prt) rfl;have k6:=rowAt hk.row 6 (.bool opq) rfl;have k7:=rowAt hk.row 7 (.slice a xs.length c) rfl;have k8:=rowAt hk.row 8 (.bool hqx) rfl;have k9:=rowAt hk.row 9 (.bool hfx) rfl;have k10:=rowAt hk.row 10 (.string qry) rfl;have k11:=rowAt hk.row 11 (.string frg) rfl;have hown':=hk.own.kept (grown_setRow w12 w.heap.size #[.string sch,.string usr,.string pas,.bool hh,.string hst,.int .i64 prt,.bool opq,.slice a xs.length c,.bool hqx,.bool hfx,.string qry,.string frg]) (fun k hk=>by injection hk with hk;subst hk;exact⟨_,_,_,hRx,by decide⟩)
     have HFin:Hid (UrlOwn (w12.setRow w.heap.size #[.string sch,.string usr,.string pas,.bool hh,.string hst,.int .i64 prt,.bool opq,.slice a xs.length c,.bool hqx,.bool hfx,.string qry,.string frg]) (.agg #[.string sch,.string usr,.string pas,.bool hh,.string hst,.int .i64 prt,.bool opq,.slice a xs.length c,.bool hqx,.bool hfx,.string qry,.string frg]) {u2 with query:=Lz.encodeP (Lz.setU 2) u2.query,fragment:=Lz.encodeP (Lz.setU 1) u2.fragment}):=by
      exact⟨_,⟨sch,usr,pas,hh,hst,prt,opq,.slice a xs.length c,xs,hqx,hfx,qry,frg⟩,rfl,hown',Ih hux.symm⟩
     clear hown';clear hux hcells hk hm12 hm11 hm10 hm9 hfin
     go_wp2_with (refine wpList_store_row rfl 25 (.tmp 4) (.tmp 77) rfl w.heap.size #[.string sch,.string usr,.string pas,.bool hh,.string hst,.int .i64 prt,.bool opq,.slice a xs.length c,.bool hqx,.bool hfx,.string qry,.string frg] rfl rfl 25 _ hRx urlSize rfl (by simp[Value.oneCell']) ?_)
     refine bodyPost_ret (results_row2 (P:=Tryz.prog) (u:=5) rfl _ _ w.heap.size 25 _ (0,0) _ rfl (setRow_heap _ _ _ _ _ _ hRx) Tryz.underlying25 rfl urlSize) rfl ?_;refine⟨_,_,rfl,below_setRow (hbW.trans (hb12.mono (by omega))) (Nat.le_refl _),?_⟩;rw[HG3.out];exact⟨rfl,HFin.out⟩
end Go.Proofs.YtipndhbgehdeoaaGreatDoor
