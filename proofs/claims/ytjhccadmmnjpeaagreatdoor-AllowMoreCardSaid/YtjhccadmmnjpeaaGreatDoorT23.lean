/-
  Package urls: authority, hosted.
-/
import Derived.Test.YtjhccadmmnjpeaaGreatDoorT22
set_option maxHeartbeats 2000000
set_option maxRecDepth 100000
namespace Go.Proofs.YtjhccadmmnjpeaaGreatDoor
open Go.RowKit
def AuthRel (B M:Nat) (goal:Lz.UR) (L:Nat) (w:World) (s1:Value) (wx:World):Prop:=
 ∃(ab:ByteArray) (u:Lz.UrlL),s1=.string ab/\Below B w wx/\MkIs B M wx u/\Hid (goal=Lz.placeU u ab.data.toList)/\ab.size<=L
def PlaceRel (B M:Nat) (goal:Lz.UR) (L:Nat) (w:World) (s1 s9:Value) (wx:World):Prop:=
 ∃(ab pb:ByteArray) (u:Lz.UrlL),s1=.string ab/\s9=.string pb/\Below B w wx/\MkIs B M wx u/\Hid (goal=if ab.data.toList=[]/\Lz.specP u.scheme=true then .er 70 else(Lz.hostU u ab.data.toList).bind fun v=>Lz.portU v pb.data.toList)/\ab.size<=L/\pb.size<=L
theorem mk_who {B M:Nat} {w w1:World} {u:Lz.UrlL} (hm:MkIs B M w1 u) (hb:Below B w w1) (ub pb:ByteArray) (l:List UInt8) (hu:ub.data.toList=Lz.encodeP (Lz.setU 5) (Lib.cut l [58]).1) (hp:pb.data.toList=Lz.encodeP (Lz.setU 5) (Lib.cut l [58]).2.1):
  Below B w ((w1.setCell ⟨M,1,none⟩ (.string ub)).setCell ⟨M,2,none⟩ (.string pb))/\MkIs B M ((w1.setCell ⟨M,1,none⟩ (.string ub)).setCell ⟨M,2,none⟩ (.string pb)) (Lz.whoU u l):=by
 obtain⟨sch,usr,pas,hh,hst,prt,opq,a,c,xs,hq,hf,qry,frg,hk,rfl,hc,hcells⟩:=hm.form;have m1:=mk_set hk 1 (.string ub) ⟨sch,ub,pas,hh,hst,prt,opq,.slice a xs.length c,xs,hq,hf,qry,frg⟩ (Lz.specP sch.data.toList) (slashB (Lz.specP sch.data.toList)) (by simp) (fun _ h=>h);have m2:=mk_set m1 2 (.string pb) ⟨sch,ub,pb,hh,hst,prt,opq,.slice a xs.length c,xs,hq,hf,qry,frg⟩ (Lz.specP sch.data.toList) (slashB (Lz.specP sch.data.toList)) (by simp) (fun _ h=>h);refine⟨(hb.setCell (p:=⟨M,1,none⟩) hk.le _).setCell (p:=⟨M,2,none⟩) hk.le _,_,m2,Ih ?_⟩;unfold Lz.whoU;rw[<-hu,<-hp];rfl
theorem lastN_some {s:List UInt8} {i:Nat} (h:Lz.lastN s=some i):Lz.lastAt s=some (s.take i,s.drop (i+1))/\i<s.length:=by
 unfold Lz.lastN at h;rw[Option.map_eq_some_iff]at h;obtain⟨⟨x,y⟩,h1,h2⟩:=h;have hl:=Lz.lastAt_len h1
 have hs:∀{s x y:List UInt8},Lz.lastAt s=some (x,y)->s=x++64::y:=by
  intro s
  induction s with
  | nil=>intro x y h;cases h
  | cons c r ih=>
    intro x y h;rw[Lz.lastAt]at h;cases hr:Lz.lastAt r with
    | some z=>
      obtain⟨x',y'⟩:=z;rw[hr]at h;simp only[Option.some.injEq,Prod.mk.injEq]at h;rw[<-h.1,<-h.2,ih hr];rfl
    | none=>
      rw[hr]at h;simp only at h;split at h
      ·rename_i hc;simp only[Option.some.injEq,Prod.mk.injEq]at h;rw[<-h.1,<-h.2,show c=64 by simpa using hc];rfl
      ·cases h
 have he:=hs h1;simp only at h2;subst h2;refine⟨?_,by omega⟩;rw[h1];congr 1;rw[he]
 simp
theorem lastN_no {s:List UInt8} (h:Lz.lastN s=none):Lz.lastAt s=none:=by
 unfold Lz.lastN at h;rw[Option.map_eq_none_iff]at h;exact h
theorem authU_none {u:Lz.UrlL} {s:List UInt8} (h:Lz.lastN s=none):Lz.authU u s=Lz.placeU u s:=by unfold Lz.authU;rw[lastN_no h]
theorem authU_some {u:Lz.UrlL} {s:List UInt8} {i:Nat} (h:Lz.lastN s=some i):Lz.authU u s=if s.drop (i+1)=[]then .er 70 else Lz.placeU (Lz.whoU u (s.take i)) (s.drop (i+1)):=by unfold Lz.authU;rw[(lastN_some h).1]
theorem placeU_none {u:Lz.UrlL} {s:List UInt8} (h:Lz.colonP false s=none):Lz.placeU u s=if s=[]/\Lz.specP u.scheme=true then .er 70 else(Lz.hostU u s).bind fun v=>Lz.portU v []:=by unfold Lz.placeU;rw[h]
theorem placeU_some {u:Lz.UrlL} {s:List UInt8} {i:Nat} (h:Lz.colonP false s=some i):Lz.placeU u s=if s.take i=[]then .er 70 else(Lz.hostU u (s.take i)).bind fun v=>Lz.portU v (s.drop (i+1)):=by unfold Lz.placeU;rw[h]
theorem colonP_lt:∀{b:Bool} {s:List UInt8} {i:Nat},Lz.colonP b s=some i->i<s.length
 | _,[],_,h=>by cases h
 | b,c::r,i,h=>by
   rw[Lz.colonP]at h
   have key:∀b' k,(Lz.colonP b' r).map (·+1)=some k->k<(c::r).length:=by
    intro b' k hk;rw[Option.map_eq_some_iff]at hk;obtain⟨m,hm,rfl⟩:=hk;have:=colonP_lt hm
    simp;omega
   split at h
   ·exact key _ _ h
   ·split at h
    ·exact key _ _ h
    ·split at h
     ·injection h with h;subst h;simp
     ·exact key _ _ h
theorem authM_any (B M:Nat) (u:Lz.UrlL) (s:ByteArray) (hs:s.size<=900000) (w:World) (hE:EnvH w) (hm:MkIs B M w u) (hB:B<=w.heap.size) (hBg:13<=B):
  Calls Tryz.prog 165 #[.pointer (some ⟨M,0,none⟩),.string s] w (RMkE B M (Lz.authU u s.data.toList) w):=by
 obtain⟨goal,hgoal⟩:∃goal,goal=Lz.authU u s.data.toList:=⟨_,rfl⟩;rw[<-hgoal];have Hgoal:=Ih hgoal;have HE:=Ih hE;have Hm:=Ih hm;have cL:=Ih (fun W=>last_any s (by omega) W);obtain⟨o,ho⟩:∃o,o=Lz.lastN s.data.toList:=⟨_,rfl⟩;rw[<-ho]at cL;obtain⟨oi,hoi⟩:∃oi,oi=intO o:=⟨_,rfl⟩;rw[<-hoi]at cL;have Ho:=Ih ho;have Hoi:=Ih hoi;clear hgoal hE hm ho hoi;go_enter Tryz.func165,Tryz.ntmps165
 go_wp2_with fail
 refine(cL.out _).mono ?_;rintro e w1 ⟨rfl,rfl⟩
 go_upto_if 15 with fail
 go_cut [1] (fun s1 wx=>AuthRel B M goal s.size w s1 wx)
 case first=>
  cases o with
  | none=>
    obtain rfl:oi= -1:=Hoi.out;have HG:Hid (goal=Lz.placeU u s.data.toList):=by show _=_;rw[Hgoal.out,authU_none Ho.out.symm]
    go_wp2_with fail
    go_meet;exact⟨s,u,rfl,Below.refl _ _,Hm.out,HG,Nat.le_refl _⟩
  | some i=>
    obtain rfl:oi=(i:Int):=Hoi.out;have hil:i<s.size:=by rw[<-len_of_size];exact(lastN_some Ho.out.symm).2
    have HG:Hid (goal=if s.data.toList.drop (i+1)=[]then .er 70 else Lz.placeU (Lz.whoU u (s.data.toList.take i)) (s.data.toList.drop (i+1))):=by show _=_;rw[Hgoal.out,authU_some Ho.out.symm]
    have hi0:(0:Int)<=(i:Int):=by omega
    have hi1:(i:Int)<=(s.size:Int):=by omega
    have hi2:(0:Int)<=(i:Int)+1:=by omega
    have hi3:(i:Int)+1<=(s.size:Int):=by omega
    have hi4:((i:Int)+1).toNat=i+1:=by omega
    have hw1:IntKind.i64.wrap ((i:Int)+1)=(i:Int)+1:=IntWalk.i64_in _ (by omega);have hx1:=extract_size_le' s 0 i;have cC:=Ih (Cut_h (s.extract 0 i) ⟨#[58]⟩ (by omega) w HE.out)
    go_wp2_with fail
    refine cC.out.mono ?_;rintro e w1 ⟨ub,pb,rfl,hub,hpb,hb1⟩;have hcl:=Lz.cut_len 58 (s.extract 0 i).data.toList;rw[show([58]:List UInt8)=(⟨#[58]⟩:ByteArray).data.toList from rfl,<-hub.out,<-hpb.out,len_of_size,len_of_size,len_of_size]at hcl;have cE1:=Ih (Encode_any 5 (by decide) ub (by omega) w1)
    go_wp2_with fail
    refine cE1.out.mono ?_;rintro e w2 ⟨ue,rfl,hue,hb2⟩;have cE2:=Ih (Encode_any 5 (by decide) pb (by omega) w2)
    go_wp2_with fail
    refine cE2.out.mono ?_;rintro e w3 ⟨pe,rfl,hpe,hb3⟩;have hb13:=below_call (below_call hb1 hb2) hb3;have hm3:=Hm.out.below hb13;obtain⟨hb4,hm4⟩:=mk_who hm3 (hb13.mono hB) ue pe (s.data.toList.take i) (by rw[hue.out,hub.out,extract_head2];rfl) (by rw[hpe.out,hpb.out,extract_head2];rfl);obtain⟨sch,usr,pas,hh,hst,prt,opq,a,c,xs,hq,hf,qry,frg,hk,hux,hc,hcells⟩:=hm3.form;have c1:=rowAt hk.row 1 (.string usr) rfl;have f1:=rowFz hk.row 1;have c2:=rowAt hk.row 2 (.string pas) rfl;have f2:=rowFz hk.row 2;have hxd:(s.extract (i+1) s.size).data.toList=s.data.toList.drop (i+1):=extract_tail' s (i+1);by_cases he:s.data.toList.drop (i+1)=[]
    ·have hem:(s.extract (i+1) s.size).toList.isEmpty=true:=isEmpty_of_size (by rw[<-len_of_size,hxd,he];rfl);have HG2:Hid (goal=.er 70):=by show _=_;rw[HG.out,if_pos he]
     clear hux hcells hk hcl hub hpb hue hpe he hxd
     go_wp2_with fail
     go_ret;refine⟨_,rfl,hb4,?_⟩;rw[HG2.out];exact⟨_,rfl⟩
    ·have hem:(s.extract (i+1) s.size).toList.isEmpty=false:=isEmpty_of_pos (by rw[<-len_of_size,hxd];exact List.length_pos_iff.2 he);have HG2:Hid (goal=Lz.placeU (Lz.whoU u (s.data.toList.take i)) (s.extract (i+1) s.size).data.toList):=by show _=_;rw[HG.out,if_neg he,hxd]
     have hxl:=extract_size_le' s (i+1) s.size;clear hux hcells hk hcl hub hpb hue hpe he hxd
     go_wp2_with fail
     go_meet;exact⟨_,_,rfl,hb4,hm4,HG2,hxl⟩
 case rest=>
  obtain⟨ab,u1,rfl,hbw,hm1,hG,hal⟩:=hcut;have hEc:=HE.out.at hbw hBg;have hBc:B<=wc.heap.size:=Nat.le_trans hB hbw.size;have cN:=Ih (fun W=>colon_any ab (by omega) W);obtain⟨o2,ho2⟩:∃o2,o2=Lz.colonP false ab.data.toList:=⟨_,rfl⟩;rw[<-ho2]at cN;obtain⟨oi2,hoi2⟩:∃oi2,oi2=intO o2:=⟨_,rfl⟩;rw[<-hoi2]at cN;have Ho2:=Ih ho2;have Hoi2:=Ih hoi2;clear ho2 cL hoi2 Hoi
  go_wp2_with fail
  refine(cN.out _).mono ?_;rintro e w2 ⟨rfl,rfl⟩
  go_upto_if 48 with fail
  go_cut [1,9] (fun s1 s9 wx=>PlaceRel B M goal s.size w s1 s9 wx)
  case first=>
   cases o2 with
   | none=>
     obtain rfl:oi2= -1:=Hoi2.out;have HG:Hid (goal=if ab.data.toList=[]/\Lz.specP u1.scheme=true then .er 70 else(Lz.hostU u1 ab.data.toList).bind fun v=>Lz.portU v (⟨#[]⟩:ByteArray).data.toList):=by show _=_;rw[hG.out,placeU_none Ho2.out.symm]
     go_wp2_with fail
     go_meet;exact⟨ab,⟨#[]⟩,u1,rfl,rfl,hbw,hm1,HG,hal,Nat.zero_le _⟩
   | some i=>
     obtain rfl:oi2=(i:Int):=Hoi2.out;have hil:i<ab.size:=by rw[<-len_of_size];exact colonP_lt Ho2.out.symm
     have HG:Hid (goal=if ab.data.toList.take i=[]then .er 70 else(Lz.hostU u1 (ab.data.toList.take i)).bind fun v=>Lz.portU v (ab.data.toList.drop (i+1))):=by show _=_;rw[hG.out,placeU_some Ho2.out.symm]
     have hi0:(0:Int)<=(i:Int):=by omega
     have hi1:(i:Int)<=(ab.size:Int):=by omega
     have hi2:(0:Int)<=(i:Int)+1:=by omega
     have hi3:(i:Int)+1<=(ab.size:Int):=by omega
     have hi4:((i:Int)+1).toNat=i+1:=by omega
     have hw1:IntKind.i64.wrap ((i:Int)+1)=(i:Int)+1:=IntWalk.i64_in _ (by omega);have hx1:=extract_size_le' ab 0 i;have hx2:=extract_size_le' ab (i+1) ab.size;have hxa:(ab.extract 0 i).data.toList=ab.data.toList.take i:=extract_head2 ab i;have hxd:(ab.extract (i+1) ab.size).data.toList=ab.data.toList.drop (i+1):=extract_tail' ab (i+1);by_cases he:ab.data.toList.take i=[]
     ·have hem:(ab.extract 0 i).toList.isEmpty=true:=isEmpty_of_size (by rw[<-len_of_size,hxa,he];rfl);have HG2:Hid (goal=.er 70):=by show _=_;rw[HG.out,if_pos he]
      clear he hxa hxd
      go_wp2_with fail
      go_quiet (fail)
      have hb4:Below B w (wc.drewN nq):=below_drewN hbw nq;generalize wc.drewN nq=wa at hb4⊢
      go_wp2_with fail
      go_ret;refine⟨_,rfl,hb4,?_⟩;rw[HG2.out];exact⟨_,rfl⟩
     ·have hem:(ab.extract 0 i).toList.isEmpty=false:=isEmpty_of_pos (by rw[<-len_of_size,hxa];exact List.length_pos_iff.2 he)
      have HG2:Hid (goal=if(ab.extract 0 i).data.toList=[]/\Lz.specP u1.scheme=true then .er 70 else(Lz.hostU u1 (ab.extract 0 i).data.toList).bind fun v=>Lz.portU v (ab.extract (i+1) ab.size).data.toList):=by
       show _=_;rw[HG.out,if_neg he,if_neg (fun h=>he (by rw[<-hxa];exact h.1)),hxa,hxd]
      clear he hxa hxd
      go_wp2_with fail
      go_quiet (fail)
      have hb4:Below B w (wc.drewN nq):=below_drewN hbw nq;have hm4:MkIs B M (wc.drewN nq) u1:=hm1.below (below_drewN (Below.refl _ wc) nq);generalize wc.drewN nq=wa at hb4 hm4⊢
      go_wp2_with fail
      go_meet;exact⟨_,_,u1,rfl,rfl,hb4,hm4,HG2,by omega,by omega⟩
  case rest=>
   clear cN Hoi2 hG hal hm1 hbw hEc hBc;obtain⟨ab,pb,u2,rfl,rfl,hbw,hm2,hG,hal,hpl⟩:=hcut;have hEc:=HE.out.at hbw hBg;have hBc:B<=wc.heap.size:=Nat.le_trans hB hbw.size;obtain⟨sch,usr,pas,hh,hst,prt,opq,a,c,xs,hq,hf,qry,frg,hk,hux,hc,hcells⟩:=hm2.form;have hus:u2.scheme=sch.data.toList:=by rw[hux]
   have c12:=rowAt hk.row 12 (.bool (Lz.specP sch.data.toList)) rfl;have hG2:Hid (goal=if ab.data.toList=[]/\Lz.specP sch.data.toList=true then .er 70 else(Lz.hostU u2 ab.data.toList).bind fun v=>Lz.portU v pb.data.toList):=by show _=_;rw[hG.out,hus]
   generalize Lz.specP sch.data.toList=sp at hG2 c12;clear hux hk hcells hus hG;have cH:=Ih (hostM_any B M u2 ab (by omega) wc hEc hm2 hBc)
   have hfin:Hid ((goal=(Lz.hostU u2 ab.data.toList).bind fun v=>Lz.portU v pb.data.toList))\/(ab.data.toList=[]/\sp=true):=by
    by_cases h:ab.data.toList=[]/\sp=true
    ·exact .inr h
    ·exact .inl (Ih (by rw[hG2.out,if_neg h]))
   by_cases he:ab.data.toList=[]
   ·have hem:ab.toList.isEmpty=true:=isEmpty_of_size (by rw[<-len_of_size,he];rfl);cases sp with
    | true=>
      have HG3:Hid (goal=.er 70):=by show _=_;rw[hG2.out,if_pos ⟨he,rfl⟩]
      clear he hfin
      go_wp2_with fail
      go_ret;refine⟨_,rfl,hbw,?_⟩;rw[HG3.out];exact⟨_,rfl⟩
    | false=>
      have HG3:Hid (goal=(Lz.hostU u2 ab.data.toList).bind fun v=>Lz.portU v pb.data.toList):=hfin.resolve_right (fun h=>by cases h.2);clear he hfin
      go_wp2_with fail
      refine cH.out.mono ?_;rintro e w3 ⟨v,rfl,hb3,hres⟩;have hb03:=hbw.trans hb3;generalize Lz.hostU u2 ab.data.toList=r at hres HG3;cases r with
      | er n=>
        obtain⟨p,rfl⟩:=hres
        go_wp2_with fail
        go_ret;refine⟨_,rfl,hb03,?_⟩;rw[HG3.out];exact⟨p,rfl⟩
      | ok u3=>
        obtain⟨rfl,hm3⟩:=hres;have cP:=Ih (portM_any B M u3 pb (by omega) w3 hm3);have HG4:Hid (goal=Lz.portU u3 pb.data.toList):=Ih HG3.out
        go_wp2_with fail
        refine cP.out.mono ?_;rintro e w4 ⟨v,rfl,hb4,hres⟩
        go_wp2_with fail
        go_ret;refine⟨v,rfl,hb03.trans hb4,?_⟩;rw[HG4.out];exact hres
   ·have hem:ab.toList.isEmpty=false:=isEmpty_of_pos (by rw[<-len_of_size];exact List.length_pos_iff.2 he);have HG3:Hid (goal=(Lz.hostU u2 ab.data.toList).bind fun v=>Lz.portU v pb.data.toList):=hfin.resolve_right (fun h=>he h.1);clear he hfin
    go_wp2_with fail
    refine cH.out.mono ?_;rintro e w3 ⟨v,rfl,hb3,hres⟩;have hb03:=hbw.trans hb3;generalize Lz.hostU u2 ab.data.toList=r at hres HG3;cases r with
    | er n=>
      obtain⟨p,rfl⟩:=hres
      go_wp2_with fail
      go_ret;refine⟨_,rfl,hb03,?_⟩;rw[HG3.out];exact⟨p,rfl⟩
    | ok u3=>
      obtain⟨rfl,hm3⟩:=hres;have cP:=Ih (portM_any B M u3 pb (by omega) w3 hm3);have HG4:Hid (goal=Lz.portU u3 pb.data.toList):=Ih HG3.out
      go_wp2_with fail
      refine cP.out.mono ?_;rintro e w4 ⟨v,rfl,hb4,hres⟩
      go_wp2_with fail
      go_ret;refine⟨v,rfl,hb03.trans hb4,?_⟩;rw[HG4.out];exact hres
end Go.Proofs.YtjhccadmmnjpeaaGreatDoor
