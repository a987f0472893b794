/-
  Package urls: files, walked.
-/
import Derived.Test.YtjhccadmmnjpeaaGreatDoorT25
import Derived.Test.YtjhccadmmnjpeaaGreatDoorT26
set_option maxHeartbeats 4000000
set_option maxRecDepth 100000
namespace Go.Proofs.YtjhccadmmnjpeaaGreatDoor
open Go.RowKit
def ofQ:Option Lz.UrlL->Bool
 | some x=>decide (x.scheme=Lz.fileS)
 | none=>false
theorem filesM_any (B M:Nat) (u:Lz.UrlL) (b:Option Lz.UrlL) (bv:Value) (r:ByteArray) (hr:r.size<=900000) (w:World) (hE:EnvH w) (hm:MkIs B M w u) (hB:B<=w.heap.size) (hBg:13<=B) (hbv:BaseAt B w bv b) (hL:∀x,b=some x->x.path.length<=40000000) (hL2:u.path.length<=40000000) (hs:u.scheme=Lz.fileS):
  Calls Tryz.prog 104 #[.pointer (some ⟨M,0,none⟩),bv,.string r] w (RMkE B M (Lz.filesU u b r.data.toList) w):=by
 obtain⟨goal,hgoal⟩:∃goal,goal=Lz.filesU u b r.data.toList:=⟨_,rfl⟩;rw[<-hgoal];have Hgoal:=Ih hgoal;obtain⟨v3,c3,f3⟩:=mk_cell hm 3 (by decide);obtain⟨hb1,hm1⟩:=mk_hh hm (Below.refl B w) true;have hB1:B<=(w.setCell ⟨M,3,none⟩ (.bool true)).heap.size:=Nat.le_trans hB hb1.size;have hE1:=hE.at hb1 hBg;have hbv1:=hbv.at hb1;obtain⟨W1,hW1⟩:∃W1,W1=w.setCell ⟨M,3,none⟩ (.bool true):=⟨_,rfl⟩;rw[<-hW1]at hb1 hm1 hB1 hE1 hbv1;have hs1:({u with hasHost:=true}:Lz.UrlL).scheme=Lz.fileS:=hs;obtain⟨u1,hu1⟩:∃u1,u1=({u with hasHost:=true}:Lz.UrlL):=⟨_,rfl⟩;rw[<-hu1]at hm1 hs1;have Hu1:=Ih hu1;obtain⟨h12,h13⟩:=mk_sp hm1 (sp:=true) (by rw[hs1];rfl);obtain⟨n,hn⟩:∃n,n=Lz.leadS true r.data.toList:=⟨_,rfl⟩;have cT:=Ih (TrimLeft_sl r true W1);rw[<-hn]at cT;have Hn:=Ih hn;have hnl:n<=r.size:=by rw[hn,<-len_of_size];exact Lz.lead_le _ _
 have hL1:u1.path.length<=40000000:=by rw[hu1];exact hL2
 have hMl:M<W1.heap.size:=by obtain⟨x,hx,_⟩:=hm1;exact row_lt hx.row
 have HW1:Hid (W1=w.setCell ⟨M,3,none⟩ (.bool true)):=Ih hW1;obtain⟨q,hq⟩:∃q,q=ofQ b:=⟨_,rfl⟩;have Hq:=Ih hq;have HE0:=Ih hE;have Hbv:=Ih hbv1;clear hgoal hm hE hbv hn hu1 hs hL2 hq hW1;go_enter Tryz.func104,Tryz.ntmps104
 go_upto_region 2 with fail
 rw[<-HW1.out]
 go_cut [7] (fun s7 wx=>s7=.bool q/\W1=wx)
 case first=>
  cases b with
  | none=>
    have hbn:bv=.pointer none:=Hbv.out;subst hbn;have hqf:q=false:=Hq.out;subst hqf
    go_wp2_with fail
    go_meet;exact⟨rfl,rfl⟩
  | some x=>
    obtain⟨p,fr,sch,usr,pas,hh,hst,prt,opq,a,c,xs,hq2,hf,qry,frg,rfl,hpB,hrow,hx,hcells⟩:=Hbv.out;have d0:=rowAt hrow 0 (.string sch) rfl;have hqd:Hid (q=decide (sch.data.toList=Lz.fileS)):=by show _=_;rw[Hq.out];show decide (x.scheme=_)=_;rw[hx]
    clear hx hcells;by_cases hf0:sch.data.toList=Lz.fileS
    ·have g0:=text_yes (k:=[102,105,108,101]) hf0;have hqt:q=true:=by rw[hqd.out];exact decide_eq_true hf0
     subst hqt
     go_wp2_with fail
     go_meet;exact⟨rfl,rfl⟩
    ·have g0:=text_no (k:=[102,105,108,101]) hf0;have hqt:q=false:=by rw[hqd.out];exact decide_eq_false hf0
     subst hqt
     go_wp2_with fail
     go_meet;exact⟨rfl,rfl⟩
 case rest=>
  obtain⟨rfl,rfl⟩:=hcut
  go_wp2_with fail
  refine cT.out.mono ?_;rintro e w1 ⟨tb,rfl,htb,hb2⟩;have htz:tb.size=r.size-n:=by rw[<-len_of_size,htb.out,List.length_drop,len_of_size]
  have hsub:(r.size:Int)-(tb.size:Int)=(n:Int):=by omega
  have hsub2:IntKind.i64.wrap (n:Int)=(n:Int):=IntWalk.i64_in _ (by omega);have hm2:=hm1.below hb2;have hE2:=hE1.below hb2;have hb02:Below B w w1:=hb1.trans (hb2.mono hB1);have hB2:B<=w1.heap.size:=Nat.le_trans hB1 hb2.size;have g13:w1.cell? ⟨M,13,none⟩=some (.string (slashB true)):=by rw[hb2.cell (p:=⟨M,13,none⟩) hMl];exact h13
  have hbv2:=Ih (Hbv.out.at (hb2.mono hB1));clear htb htz cT h12 h13 hm1 hE1 HW1 Hbv c3 f3 hMl;rcases Nat.lt_or_ge 1 n with hn1|hn1
  ·have hn1I:(1:Int)<(n:Int):=by omega
   have h2I:(2:Int)<=(r.size:Int):=by omega
   have hx2:=extract_size_le' r 2 r.size;have hU:=filesU_two u b r.data.toList (by rw[<-Hn.out];exact hn1);rw[<-Hgoal.out,<-Hu1.out,<-extract_from]at hU;have cC:=cutM_any M true (r.extract 2 r.size) (by omega) w1 g13;have hcl:=Lz.cutS_len true (r.extract 2 r.size).data.toList;generalize hct:Lz.cutS true (r.extract 2 r.size).data.toList=cc at cC hU hcl;obtain⟨hl,tl,more⟩:=cc;simp only[len_of_size]at hcl;have CC:=Ih cC;have HU:=Ih hU;clear cC hU hct
   go_wp2_with fail
   refine CC.out.mono ?_;rintro e w2 ⟨hb,tb2,rfl,hhb,htb,hb3⟩;have hhs:hb.size<=r.size:=by rw[<-len_of_size,hhb.out];omega
   have hts:tb2.size<=r.size:=by rw[<-len_of_size,htb.out];omega
   have hU2:goal=(if Lz.driveP hb.data.toList then .ok (Lz.onP u1 (r.extract 2 r.size).data.toList)
     else(if hb.data.toList=[]then Lz.UR.ok u1 else Lz.hostU u1 hb.data.toList).bind fun u=>.ok (Lz.onP (if u.host=Lz.localS then{u with host:=[]} else u) tb2.data.toList)):=by
    rw[HU.out,hhb.out,htb.out]
   have cD:=drive_any hb w2;generalize Lz.driveP hb.data.toList=dq at cD hU2;have CD:=Ih cD;have HU2:=Ih hU2;have hm3:=hm2.below hb3;have hE3:=hE2.below hb3;have hb03:Below B w w2:=hb02.trans (hb3.mono hB2);have hB3:B<=w2.heap.size:=Nat.le_trans hB2 hb3.size;clear hU2 cD CC HU hhb htb hm2 hE2;cases dq with
   | true=>
     have HG:Hid (goal=.ok (Lz.onP u1 (r.extract 2 r.size).data.toList)):=by show _=_;rw[HU2.out,if_pos rfl]
     have cO:=Ih (on_any B M (r.extract 2 r.size) u1 w2 hE3 hm3 hB3 hBg (by omega))
     go_wp2_with fail
     refine(CD.out).mono ?_;rintro e w3 ⟨rfl,rfl⟩
     go_wp2_with fail
     refine cO.out.mono ?_;rintro e w3 ⟨rfl,hb4,hm4⟩
     go_wp2_with fail
     go_ret;refine⟨_,rfl,hb03.trans hb4,?_⟩;rw[HG.out];exact⟨rfl,hm4⟩
   | false=>
     have HU3:Hid (goal=(if hb.data.toList=[]then Lz.UR.ok u1 else Lz.hostU u1 hb.data.toList).bind fun u=>.ok (Lz.onP (if u.host=Lz.localS then{u with host:=[]} else u) tb2.data.toList)):=by show _=_;rw[HU2.out,if_neg (by simp)]
     clear HU2
     go_wp2_with fail
     refine(CD.out).mono ?_;rintro e w3 ⟨rfl,rfl⟩;obtain⟨ne,hne⟩:∃ne,ne= !decide (hb.data.toList=[]):=⟨_,rfl⟩;have Hne:=Ih hne;clear hne
     go_upto_region 12 with fail
     go_cut [66] (fun s66 wx=>s66=.bool ne/\w2=wx)
     case first=>
      by_cases he:hb.data.toList=[]
      ·have g0:=text_yes he;have hem:hb.toList.isEmpty=true:=isEmpty_of_size (by rw[<-len_of_size,he];rfl);have hnf:ne=false:=by rw[Hne.out,decide_eq_true he];rfl
       subst hnf;clear he
       go_wp2_with fail
       go_meet;exact⟨rfl,rfl⟩
      ·have g0:=text_no he;have hem:hb.toList.isEmpty=false:=isEmpty_of_pos (by rw[<-len_of_size];exact List.length_pos_iff.2 he);have hnf:ne=true:=by rw[Hne.out,decide_eq_false he];rfl
       subst hnf;clear he
       go_wp2_with fail
       go_meet;exact⟨rfl,rfl⟩
     case rest=>
      obtain⟨rfl,rfl⟩:=hcut
      go_upto_if 66 with fail
      go_cut [] (fun wx=>Below B w wx/\∃u2,MkIs B M wx u2/\u2.path.length<=40000000/\Hid (goal=.ok (Lz.onP (if u2.host=Lz.localS then{u2 with host:=[]} else u2) tb2.data.toList)))
      case first=>
       cases ne with
       | false=>
         have he:hb.data.toList=[]:=by have:=Hne.out;simpa using this
         have HG:Hid (goal=.ok (Lz.onP (if u1.host=Lz.localS then{u1 with host:=[]} else u1) tb2.data.toList)):=by show _=_;rw[HU3.out,if_pos he];rfl
         clear he
         go_wp2_with fail
         go_meet;exact⟨hb03,u1,hm3,hL1,HG⟩
       | true=>
         have he:¬hb.data.toList=[]:=by have:=Hne.out;simpa using this
         have HG:Hid (goal=(Lz.hostU u1 hb.data.toList).bind fun u=>.ok (Lz.onP (if u.host=Lz.localS then{u with host:=[]} else u) tb2.data.toList)):=by show _=_;rw[HU3.out,if_neg he]
         have cH:=Ih (hostM_any B M u1 hb (by omega) w2 hE3 hm3 hB3);clear he HU3
         go_wp2_with fail
         refine cH.out.mono ?_;rintro e w4 ⟨v,rfl,hb4,hres⟩;have hb04:=hb03.trans hb4;generalize hrr:Lz.hostU u1 hb.data.toList=rr at hres HG;cases rr with
         | er m=>
           obtain⟨pp,rfl⟩:=hres;clear hrr
           go_wp2_with fail
           go_ret;refine⟨_,rfl,hb04,?_⟩;rw[HG.out];exact⟨pp,rfl⟩
         | ok u2=>
           obtain⟨rfl,hm4⟩:=hres;have hp2:u2.path.length<=40000000:=by rw[(Lz.hostU_path hrr).1];exact hL1
           have HG2:Hid (goal=.ok (Lz.onP (if u2.host=Lz.localS then{u2 with host:=[]} else u2) tb2.data.toList)):=Ih HG.out;clear hrr
           go_wp2_with fail
           go_meet;exact⟨hb04,u2,hm4,hp2,HG2⟩
      case rest=>
       clear hb03 hm3 hE3 hB3;obtain⟨hb03,u2,hm3,hp2,HG⟩:=hcut;have hB3:B<=wc.heap.size:=Nat.le_trans hB hb03.size;have hE3:EnvH wc:=HE0.out.at hb03 hBg;obtain⟨hst,c4,hhst⟩:=mk_get hm3;obtain⟨v4,c4',f4⟩:=mk_cell hm3 4 (by decide);clear c4';by_cases hlo:hst.data.toList=Lz.localS
       ·have g0:=text_yes (k:=[108,111,99,97,108,104,111,115,116]) hlo;have HG2:Hid (goal=.ok (Lz.onP {u2 with host:=(⟨#[]⟩:ByteArray).data.toList} tb2.data.toList)):=by show _=_;rw[HG.out,if_pos (by rw[<-hhst];exact hlo)]
        obtain⟨hb4,hm4⟩:=mk_host hm3 hb03 ⟨#[]⟩;have hb34:Below B wc (wc.setCell ⟨M,4,none⟩ (.string ⟨#[]⟩)):=(Below.refl B wc).setCell (p:=⟨M,4,none⟩) (by obtain⟨x,hx,_⟩:=hm3;exact hx.le) _;have cO:=Ih (on_any B M tb2 _ (wc.setCell ⟨M,4,none⟩ (.string ⟨#[]⟩)) (hE3.at hb34 hBg) hm4 (Nat.le_trans hB hb4.size) hBg (by show u2.path.length+_<=_;omega));clear hlo hhst
        go_wp2_with fail
        refine cO.out.mono ?_;rintro e w5 ⟨rfl,hb5,hm5⟩
        go_wp2_with fail
        go_ret;refine⟨_,rfl,hb4.trans hb5,?_⟩;rw[HG2.out];exact⟨rfl,hm5⟩
       ·have g0:=text_no (k:=[108,111,99,97,108,104,111,115,116]) hlo;have HG2:Hid (goal=.ok (Lz.onP u2 tb2.data.toList)):=by show _=_;rw[HG.out,if_neg (by rw[<-hhst];exact hlo)]
        have cO:=Ih (on_any B M tb2 _ wc hE3 hm3 hB3 hBg (by omega));clear hlo hhst
        go_wp2_with fail
        refine cO.out.mono ?_;rintro e w5 ⟨rfl,hb5,hm5⟩
        go_wp2_with fail
        go_ret;refine⟨_,rfl,hb03.trans hb5,?_⟩;rw[HG2.out];exact⟨rfl,hm5⟩
  ·have hn1I:¬((1:Int)<(n:Int)):=by omega
   by_cases hn2:n=1
   ·have hnb:((n:Int)==1)=true:=by rw[hn2];rfl
    have h1I:(1:Int)<=(r.size:Int):=by omega
    have hx1:=extract_size_le' r 1 r.size;have hU:=filesU_one u b r.data.toList (by rw[<-Hn.out];exact hn2);rw[<-Hgoal.out,<-extract_from]at hU;cases q with
    | false=>
      have HG:Hid (goal=.ok (Lz.onP u1 (r.extract 1 r.size).data.toList)):=by
       show _=_;rw[hU];congr 2;cases b with
       | none=>exact Hu1.out.symm
       | some x=>simp only;rw[if_neg (of_decide_eq_false Hq.out.symm)];exact Hu1.out.symm
      have cO:=Ih (on_any B M (r.extract 1 r.size) u1 w1 hE2 hm2 hB2 hBg (by omega));clear hn2 hU
      go_wp2_with fail
      refine cO.out.mono ?_;rintro e w5 ⟨rfl,hb5,hm5⟩
      go_wp2_with fail
      go_ret;refine⟨_,rfl,hb02.trans hb5,?_⟩;rw[HG.out];exact⟨rfl,hm5⟩
    | true=>
      cases b with
      | none=>cases Hq.out
      | some x=>
        have hxs:x.scheme=Lz.fileS:=of_decide_eq_true Hq.out.symm;simp only at hU;rw[if_pos hxs]at hU;obtain⟨p,fr,sch,usr,pas,hh,hst,prt,opq,a,c,xs,hq2,hf,qry,frg,rfl,hpB,hrow,hx,hcells⟩:=hbv2.out;have d4:=rowAt hrow 4 (.string hst) rfl;have hxh:x.host=hst.data.toList:=by rw[hx]
        have hxp:x.path=xs.map (fun x:ByteArray=>x.data.toList):=by rw[hx]
        obtain⟨v4,c4,f4⟩:=mk_cell hm2 4 (by decide);obtain⟨hb3,hm3⟩:=mk_host hm2 hb02 hst;have hb23:Below B w1 (w1.setCell ⟨M,4,none⟩ (.string hst)):=(Below.refl B w1).setCell (p:=⟨M,4,none⟩) (by obtain⟨x,hx,_⟩:=hm2;exact hx.le) _;have hB3:B<=(w1.setCell ⟨M,4,none⟩ (.string hst)).heap.size:=Nat.le_trans hB hb3.size;have hE3:=hE2.at hb23 hBg;have d7:(w1.setCell ⟨M,4,none⟩ (.string hst)).cell? ⟨p,7,none⟩=some (.slice a xs.length c):=by rw[hb23.cell (p:=⟨p,7,none⟩) hpB];exact rowAt hrow 7 _ rfl
        have hcells3:∀(j:Nat) (y:ByteArray),xs[j]? =some y->∃G off,a=some ⟨G,off,none⟩/\G<B/\(w1.setCell ⟨M,4,none⟩ (.string hst)).cell? ⟨G,off+j,none⟩=some (.string y):=by
         intro j y hj;obtain⟨G,off,e1,e2,e3⟩:=hcells j y hj;exact⟨G,off,e1,e2,by rw[hb23.cell (p:=⟨G,off+j,none⟩) e2];exact e3⟩
        have hpa:PathAt (w1.setCell ⟨M,4,none⟩ (.string hst)) (.slice a xs.length c) (xs.map (fun x:ByteArray=>x.data.toList)):=⟨a,c,xs,rfl,rfl,fun j y hj=>by
         obtain⟨G,off,e1,e2,e3⟩:=hcells3 j y hj;exact⟨G,off,e1,Nat.lt_of_lt_of_le e2 hB3,e3⟩⟩
        have cR:=rooted_any _ _ _ hpa;have cV:=driven_any (r.extract 1 r.size) (w1.setCell ⟨M,4,none⟩ (.string hst));rw[hxp,hxh]at hU;have hU1:({u with hasHost:=true,host:=hst.data.toList}:Lz.UrlL)={u1 with host:=hst.data.toList}:=by rw[Hu1.out]
        have hU2:({u with hasHost:=true,host:=hst.data.toList,path:=(xs.map (fun x:ByteArray=>x.data.toList)).take 1}:Lz.UrlL)={u1 with host:=hst.data.toList,path:=(xs.map (fun x:ByteArray=>x.data.toList)).take 1}:=by rw[Hu1.out]
        rw[hU1,hU2]at hU;generalize hw3:w1.setCell ⟨M,4,none⟩ (.string hst)=w3 at hb3 hm3 hb23 hB3 hE3 d7 hcells3 hpa cR cV;have cO1:=Ih (on_any B M (r.extract 1 r.size) _ w3 hE3 hm3 hB3 hBg (by show u1.path.length+_<=_;omega));generalize hrt:Lz.rootedP (xs.map (fun x:ByteArray=>x.data.toList))=rt at cR hU;generalize Lz.drivenP (r.extract 1 r.size).data.toList=dv at cV hU;have CV:=Ih cV;have CR:=Ih cR;have HU:=Ih hU;have HC:=Ih hcells3;clear cV cR hU hU1 hU2 hcells3 hpa hcells hx hxs hxh hxp hn2 hrow;cases dv with
        | true=>
          have HG:Hid (goal=.ok (Lz.onP {u1 with host:=hst.data.toList} (r.extract 1 r.size).data.toList)):=by show _=_;rw[HU.out,if_neg (by simp)]
          have cO:=cO1;clear hrt
          go_wp2_with fail
          refine CV.out.mono ?_;rintro e w4 ⟨rfl,rfl⟩
          go_wp2_with fail
          refine cO.out.mono ?_;rintro e w5 ⟨rfl,hb5,hm5⟩
          go_wp2_with fail
          go_ret;refine⟨_,rfl,hb3.trans hb5,?_⟩;rw[HG.out];exact⟨rfl,hm5⟩
        | false=>
          cases rt with
          | false=>
            have HG:Hid (goal=.ok (Lz.onP {u1 with host:=hst.data.toList} (r.extract 1 r.size).data.toList)):=by show _=_;rw[HU.out,if_neg (by simp)]
            have cO:=cO1;clear hrt
            go_wp2_with fail
            refine CV.out.mono ?_;rintro e w4 ⟨rfl,rfl⟩
            go_wp2_with fail
            refine CR.out.mono ?_;rintro e w4 ⟨rfl,rfl⟩
            go_wp2_with fail
            refine cO.out.mono ?_;rintro e w5 ⟨rfl,hb5,hm5⟩
            go_wp2_with fail
            go_ret;refine⟨_,rfl,hb3.trans hb5,?_⟩;rw[HG.out];exact⟨rfl,hm5⟩
          | true=>
            cases xs with
            | nil=>cases hrt
            | cons x0 xr=>
              obtain⟨G,off,rfl,hGB,hc0⟩:=HC.out 0 x0 rfl;rw[Nat.add_zero]at hc0;have hl0:(0:Int)<((x0::xr).length:Int):=by rw[List.length_cons];omega
              have hl1:(0:Int)<(xr.length:Int)+1:=by omega
              have HG:Hid (goal=.ok (Lz.onP {u1 with host:=hst.data.toList,path:=[x0].map (fun x:ByteArray=>x.data.toList)} (r.extract 1 r.size).data.toList)):=by show _=_;rw[HU.out,if_pos ⟨rfl,rfl⟩];rfl
              have hba:Below w3.heap.size w3 (w3.alloc (.cells #[.string x0] 9)):=(Below.refl _ _).alloc (Nat.le_refl _) _;obtain⟨hb5,hm5⟩:=mk_path (hm3.below hba) (hb3.trans (hba.mono hB3)) (path_one w3 B x0);obtain⟨v7,c7,f7⟩:=mk_cell (hm3.below hba) 7 (by decide);have hE5:EnvH ((w3.alloc (.cells #[.string x0] 9)).setCell ⟨M,7,none⟩ (.slice (some ⟨w3.heap.size,0,none⟩) 1 1)):=HE0.out.at hb5 hBg;have cO:=Ih (on_any B M (r.extract 1 r.size) _ _ hE5 hm5 (Nat.le_trans hB hb5.size) hBg (by show 1+_<=_;omega));clear hrt hE5 hm5
              go_wp2_with fail
              refine CV.out.mono ?_;rintro e w4 ⟨rfl,rfl⟩
              go_wp2_with fail
              refine CR.out.mono ?_;rintro e w4 ⟨rfl,rfl⟩
              go_wp2_with fail
              refine cO.out.mono ?_;rintro e w5 ⟨rfl,hb6,hm6⟩
              go_wp2_with fail
              go_ret;refine⟨_,rfl,hb5.trans hb6,?_⟩;rw[HG.out];exact⟨rfl,hm6⟩
   ·have hnb:((n:Int)==1)=false:=by rw[beq_eq_false_iff_ne];omega
    have hU:=filesU_none u b r.data.toList (by rw[<-Hn.out];omega);rw[<-Hgoal.out]at hU;cases q with
    | false=>
      have HG:Hid (goal=.ok (Lz.onP u1 r.data.toList)):=by
       show _=_;rw[hU];cases b with
       | none=>rw[Hu1.out]
       | some x=>simp only;rw[if_neg (of_decide_eq_false Hq.out.symm),Hu1.out]
      have cO:=Ih (on_any B M r u1 w1 hE2 hm2 hB2 hBg (by omega));clear hn2 hU
      go_wp2_with fail
      refine cO.out.mono ?_;rintro e w5 ⟨rfl,hb5,hm5⟩
      go_wp2_with fail
      go_ret;refine⟨_,rfl,hb02.trans hb5,?_⟩;rw[HG.out];exact⟨rfl,hm5⟩
    | true=>
      cases b with
      | none=>cases Hq.out
      | some x=>
        have hxs:x.scheme=Lz.fileS:=of_decide_eq_true Hq.out.symm;simp only at hU;rw[if_pos hxs]at hU;have hxL:=hL x rfl;obtain⟨p,fr,sch,usr,pas,hh,hst,prt,opq,a,c,xs,hq2,hf,qry,frg,rfl,hpB,hrow,hx,hcells⟩:=hbv2.out;have d4:=rowAt hrow 4 (.string hst) rfl;have hxh:x.host=hst.data.toList:=by rw[hx]
        obtain⟨v4,c4,f4⟩:=mk_cell hm2 4 (by decide);obtain⟨hb3,hm3⟩:=mk_host hm2 hb02 hst;have hb23:Below B w1 (w1.setCell ⟨M,4,none⟩ (.string hst)):=(Below.refl B w1).setCell (p:=⟨M,4,none⟩) (by obtain⟨x,hx,_⟩:=hm2;exact hx.le) _;have hB3:B<=(w1.setCell ⟨M,4,none⟩ (.string hst)).heap.size:=Nat.le_trans hB hb3.size;have hE3:=hE2.at hb23 hBg;have hK:=(base_kept (sch:=sch) (usr:=usr) (pas:=pas) (hh:=hh) (hst:=hst) (prt:=prt) (opq:=opq) (c:=c) (hq:=hq2) (hf:=hf) (qry:=qry) (frg:=frg) hB2 hcells).at hb23;rw[<-hx]at hK;have hrow3:(w1.setCell ⟨M,4,none⟩ (.string hst)).heap[p]? =_:=(hb23.block p hpB).trans hrow;have cV:=driven_any r w1;rw[hxh]at hU;have hU1:({u with hasHost:=true,host:=hst.data.toList}:Lz.UrlL)={u1 with host:=hst.data.toList}:=by rw[Hu1.out]
        rw[hU1]at hU;generalize hw3:w1.setCell ⟨M,4,none⟩ (.string hst)=w3 at hb3 hm3 hb23 hB3 hE3 hK hrow3;have cO:=Ih (on_any B M r _ w3 hE3 hm3 hB3 hBg (by show u1.path.length+_<=_;omega));have cP:=Ih (pathM_any B M _ x _ r w3 hE3 hm3 hB3 hBg hK.now (by omega));generalize Lz.drivenP r.data.toList=dv at cV hU;have CV:=Ih cV;have HU:=Ih hU;clear cV hU hU1 hcells hx hxs hxh hn2 hrow;cases dv with
        | true=>
          have HG:Hid (goal=.ok (Lz.onP {u1 with host:=hst.data.toList} r.data.toList)):=by show _=_;rw[HU.out,if_pos rfl]
          go_wp2_with fail
          refine CV.out.mono ?_;rintro e w4 ⟨rfl,rfl⟩
          go_wp2_with fail
          refine cO.out.mono ?_;rintro e w5 ⟨rfl,hb5,hm5⟩
          go_wp2_with fail
          go_ret;refine⟨_,rfl,hb3.trans hb5,?_⟩;rw[HG.out];exact⟨rfl,hm5⟩
        | false=>
          have HG:Hid (goal=.ok (Lz.pathU {u1 with host:=hst.data.toList} x r.data.toList)):=by show _=_;rw[HU.out,if_neg (by simp)]
          go_wp2_with fail
          refine CV.out.mono ?_;rintro e w4 ⟨rfl,rfl⟩
          go_wp2_with (refine wpList_load_row rfl 36 (.tmp 131) rfl p rfl 36 _ fr _ hrow3 Tryz.underlying36 rfl urlSize ?_)
          refine cP.out.mono ?_;rintro e w5 ⟨rfl,hb5,hm5⟩
          go_wp2_with fail
          go_ret;refine⟨_,rfl,hb3.trans hb5,?_⟩;rw[HG.out];exact⟨rfl,hm5⟩
end Go.Proofs.YtjhccadmmnjpeaaGreatDoor
