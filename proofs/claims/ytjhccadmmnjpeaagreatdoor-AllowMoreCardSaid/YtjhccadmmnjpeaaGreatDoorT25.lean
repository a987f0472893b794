/-
  Package urls: TrimLeft at slashes, relative.
-/
import Derived.Test.YtjhccadmmnjpeaaGreatDoorT24
set_option maxHeartbeats 2000000
set_option maxRecDepth 100000
namespace Go.Proofs.YtjhccadmmnjpeaaGreatDoor
open Go.RowKit
def RClone (B:Nat) (l:List (List UInt8)) (w:World) (e:Ending) (w':World):Prop:=
 ∃(a:Option Addr) (n c:Nat) (xs:List ByteArray),e=.returned (.slice a n c)/\xs.map (fun x:ByteArray=>x.data.toList)=l/\PathOwn w' B (.slice a n c) xs/\Below w.heap.size w w'
theorem Clone_any (B:Nat) (v:Value) (l:List (List UInt8)) (w:World) (h:PathAt w v l) (hB:B<=w.heap.size) (hL:l.length<=1000000000):Calls Tryz.prog 156 #[v] w (RClone B l w):=by
 obtain⟨i0,hi,hz0,hz1,hz2⟩:=info_parts infoTxt;obtain⟨a,c,xs,rfl,rfl,hx⟩:=h;have hxl:xs.length<=1000000000:=by simpa using hL
 cases a with
 | none=>
   have hxs:xs=[]:=by
    cases xs with
    | nil=>rfl
    | cons x r=>obtain⟨G,off,h,_⟩:=hx 0 x rfl;cases h
   subst hxs;have hnil:=fun W:World=>Lib.run_eql_slice_nil (P:=Tryz.prog) W 22 9 none 0 c 0 0 Tryz.underlying22;clear hx;go_enter Tryz.func156,Tryz.ntmps156
   go_wp2_with fail
   go_ret;exact⟨none,0,0,[],rfl,rfl,PathOwn.nil _ _,Below.refl _ _⟩
 | some p=>
   have hnews:∀(j:Nat) (u:Value),(xs.map Value.string)[j]? =some u->w.cell? (p.add j)=some u:=by
    intro j u hj;rw[List.getElem?_map,Option.map_eq_some_iff]at hj;obtain⟨x,hj,rfl⟩:=hj;obtain⟨G,off,hp,_,hc⟩:=hx j x hj;obtain rfl:p=⟨G,off,none⟩:=Option.some.inj hp;rw[show(⟨G,off,none⟩:Addr).add j=⟨G,off+j,none⟩ by simp[Addr.add]];exact hc
   have hlt:∀(j:Nat) (u:Value),(xs.map Value.string)[j]? =some u->(p.add j).block<w.heap.size:=fun j u hj=>World.block_lt_of_cell? _ _ (hnews j u hj)
   have hn2:Hid (∀(j:Nat) (u:Value),(xs.map Value.string)[j]? =some u->(w.alloc (.cells #[] 9)).cell? (p.add j)=some u):=Ih (fun j u hj=>by
    rw[World.cell?_alloc_lt _ _ _ (hlt j u hj)];exact hnews j u hj)
   have hown0:=World.ownsRow_made (base:=B) (e:=9) (size:=1) w #[] 0 hB (Nat.zero_le _) rfl;have Hown0:=Ih hown0;have hnil:=fun W:World=>Lib.run_eql_slice_nil (P:=Tryz.prog) W 22 9 (some p) xs.length c 0 0 Tryz.underlying22;clear hnews hlt hx hown0;go_enter Tryz.func156,Tryz.ntmps156
   go_wp2_with (at_builtin;refine wpList_append_own _ rfl (.tmp 5) (.tmp 6) 22 rfl B 9 i0 (.string ⟨#[]⟩) 1 16 Tryz.underlying22 hi hz0 hz1 hz2 rfl (by decide) _ 0 [] rfl Hown0.out p xs.length c (xs.map Value.string) rfl (by simp) hn2.out (by simp[Value.oneCell']) (by unfold maxLen;omega) (by omega) (by simp;omega) ?_)
   intro v' w' hown hg _;have hb:Below w.heap.size w w':=((Below.refl _ w).alloc (Nat.le_refl _) _).grown hg (by simp) (fun k hk=>by simp[Value.ownBlock]at hk;omega)
   try rw[Nat.zero_add,List.nil_append]at hown
   have hP:PathOwn w' B v' xs:=.inl hown;obtain⟨a',c',rfl,_,_⟩:=hP.form;have HP:=Ih hP;clear hown hg hP
   go_wp2_with fail
   go_ret;exact⟨a',_,c',xs,rfl,rfl,HP.out,hb⟩
theorem mk_path {B M:Nat} {w w1:World} {u:Lz.UrlL} {v:Value} {xs:List ByteArray} (hm:MkIs B M w1 u) (hb:Below B w w1) (hown:PathOwn w1 B v xs):
  Below B w (w1.setCell ⟨M,7,none⟩ v)/\MkIs B M (w1.setCell ⟨M,7,none⟩ v) {u with path:=xs.map (fun x:ByteArray=>x.data.toList)}:=by
 obtain⟨sch,usr,pas,hh,hst,prt,opq,a,c,ys,hq,hf,qry,frg,hk,rfl,hc,hcells⟩:=hm.form;refine⟨hb.setCell (p:=⟨M,7,none⟩) hk.le _,⟨sch,usr,pas,hh,hst,prt,opq,v,xs,hq,hf,qry,frg⟩,⟨rowSet hk.row 7 v (by simp),hown.setCell hk.row maker_ne 7 v,hk.le⟩,Ih rfl⟩
theorem pathM_any (B M:Nat) (u b:Lz.UrlL) (v:Value) (r:ByteArray) (w:World) (hE:EnvH w) (hm:MkIs B M w u) (hB:B<=w.heap.size) (hBg:13<=B) (hv:UrlVal w v b) (hL:b.path.length+r.size<=100000000):
  Calls Tryz.prog 103 #[.pointer (some ⟨M,0,none⟩),v,.string r] w (RMk B M (Lz.pathU u b r.data.toList) w):=by
 obtain⟨goal,hgoal⟩:∃goal,goal=Lz.pathU u b r.data.toList:=⟨_,rfl⟩;rw[<-hgoal];obtain⟨sch2,usr2,pas2,hh2,hst2,prt2,opq2,a2,c2,xs2,hq2,hf2,qry2,frg2,rfl,hbx,hcells2⟩:=hv.form;obtain⟨W,hW⟩:∃W,W=w.alloc (.cells #[.string sch2,.string usr2,.string pas2,.bool hh2,.string hst2,.int .i64 prt2,.bool opq2,.slice a2 xs2.length c2,.bool hq2,.bool hf2,.string qry2,.string frg2] 36):=⟨_,rfl⟩;have hbW:Below w.heap.size w W:=by rw[hW];exact(Below.refl _ w).alloc (Nat.le_refl _) _
 have hBW:B<=W.heap.size:=Nat.le_trans hB hbW.size
 have hR:W.heap[w.heap.size]? =some (.cells #[.string sch2,.string usr2,.string pas2,.bool hh2,.string hst2,.int .i64 prt2,.bool opq2,.slice a2 xs2.length c2,.bool hq2,.bool hf2,.string qry2,.string frg2] 36 (0,0)):=by
  rw[hW];show(w.heap.push _)[w.heap.size]? =_;simp
 have hwl:w.heap.size<W.heap.size:=row_lt hR
 have hp:PathAt W (.slice a2 xs2.length c2) b.path:=by
  have h1:PathAt w (.slice a2 xs2.length c2) b.path:=⟨a2,c2,xs2,rfl,by rw[hbx],hcells2⟩;exact h1.below hbW
 have cC:=Ih (Clone_any B _ _ W hp hBW (by omega));have hmW:=hm.below hbW;have hEW:=hE.below hbW;have d7:=rowAt hR 7 (.slice a2 xs2.length c2) rfl;have HR:=Ih hR;have Hgoal:=Ih hgoal;have Hbx:=Ih hbx;clear hgoal hbx hm hE hp hcells2 hv hR;go_enter Tryz.func103,Tryz.ntmps103
 go_wp2_with (rw[<-hW])
 refine cC.out.mono ?_;rintro e w1 ⟨a1,n1,c1,xs1,rfl,hxs1,hown1,hb1⟩;have hb01:Below B w w1:=(hbW.mono hB).trans (hb1.mono hBW);have hm1:=hmW.below hb1;obtain⟨hb2,hm2⟩:=mk_path hm1 hb01 hown1;rw[hxs1]at hm2;have hE2:EnvH (w1.setCell ⟨M,7,none⟩ (.slice a1 n1 c1)):=(hEW.below hb1).at ((Below.refl B w1).setCell (p:=⟨M,7,none⟩) (by obtain⟨x,hx,_⟩:=hm1;exact hx.le) _) hBg;have hB2:B<=(w1.setCell ⟨M,7,none⟩ (.slice a1 n1 c1)).heap.size:=Nat.le_trans hB hb2.size;obtain⟨sch,usr,pas,hh,hst,prt,opq,a,c,xs,hq,hf,qry,frg,hk,hux,hc,hcells⟩:=hm1.form;have hMlt:M<w1.heap.size:=row_lt hk.row;have c7:=rowAt hk.row 7 (.slice a xs.length c) rfl;have f7:=rowFz hk.row 7
 have hR2:(w1.setCell ⟨M,7,none⟩ (.slice a1 n1 c1)).heap[w.heap.size]? =some (.cells #[.string sch2,.string usr2,.string pas2,.bool hh2,.string hst2,.int .i64 prt2,.bool opq2,.slice a2 xs2.length c2,.bool hq2,.bool hf2,.string qry2,.string frg2] 36 (0,0)):=by
  have h1:w1.heap[w.heap.size]? =_:=(hb1.block _ hwl).trans HR.out;rw[setCell_other (fun e=>?_),h1];have h2:=hk.row;have e':w.heap.size=M:=e;rw[<-e',h1]at h2;injection h2 with h2
  injection h2 with h3 _ _
  have:=congrArg Array.size h3
  simp at this
 clear hux hcells hk;clear hm1 hmW hEW cC d7 hb1 hown1;generalize hWx:w1.setCell ⟨M,7,none⟩ (.slice a1 n1 c1)=wx at hb2 hm2 hE2 hB2 hR2;by_cases hr:r.data.toList=[]
 ·have g0:=text_yes hr;have hem:r.toList.isEmpty=true:=isEmpty_of_size (by rw[<-len_of_size,hr];rfl);obtain⟨sch,usr,pas,hh,hst,prt,opq,a,c,xs,hq,hf,qry,frg,hk,hux,hc,hcells⟩:=hm2.form;have c8:=rowAt hk.row 8 (.bool hq) rfl;have f8:=rowFz hk.row 8;have c10:=rowAt hk.row 10 (.string qry) rfl;have f10:=rowFz hk.row 10;have hqu:u.hasQuery=hq:=congrArg (fun z:Lz.UrlL=>z.hasQuery) hux
  have hM2:¬M=w.heap.size:=fun e=>by
   have h2:=hk.row;rw[e,hR2]at h2;injection h2 with h2
   injection h2 with h3 _ _
   have:=congrArg Array.size h3
   simp at this
  have hM3:¬w.heap.size=M:=fun e=>hM2 e.symm;have r10:=rowAt hR2 10 (.string qry2) rfl;have r8:=rowAt hR2 8 (.bool hq2) rfl;cases hq with
  | true=>
    have HG:Hid (goal={u with path:=b.path}):=by
     show _=_;rw[Hgoal.out];unfold Lz.pathU;rw[if_neg (fun h=>h hr),hqu];rfl
    have HF:Hid (RMk B M goal w (.returned (.tuple #[])) wx):=⟨rfl,hb2,by rw[HG.out];exact hm2⟩;clear hr hux hk hcells hm2
    go_wp2_with fail
    go_end0
    exact HF.out
  | false=>
    have HG:Hid (goal={u with path:=b.path,query:=b.query,hasQuery:=b.hasQuery}):=by
     show _=_;rw[Hgoal.out];unfold Lz.pathU;rw[if_neg (fun h=>h hr),hqu];rfl
    have m1:=mk_set hk 10 (.string qry2) ⟨sch,usr,pas,hh,hst,prt,opq,.slice a xs.length c,xs,false,hf,qry2,frg⟩ (Lz.specP sch.data.toList) (slashB (Lz.specP sch.data.toList)) (by simp) (fun _ h=>h);have m2:=mk_set m1 8 (.bool hq2) ⟨sch,usr,pas,hh,hst,prt,opq,.slice a xs.length c,xs,hq2,hf,qry2,frg⟩ (Lz.specP sch.data.toList) (slashB (Lz.specP sch.data.toList)) (by simp) (fun _ h=>h);have hbb:=((Below.refl B wx).setCell (p:=⟨M,10,none⟩) hk.le (.string qry2)).setCell (p:=⟨M,8,none⟩) hk.le (.bool hq2)
    have HF:Hid (∀wy,Below (wx.setCell ⟨M,10,none⟩ (.string qry2)).heap.size ((wx.setCell ⟨M,10,none⟩ (.string qry2)).setCell ⟨M,8,none⟩ (.bool hq2)) wy->RMk B M goal w (.returned (.tuple #[])) wy):=Ih (fun wy hby=>by
     refine⟨rfl,(hb2.trans hbb).trans (hby.mono (by simpa using hB2)),_,m2.below (by simpa using hby),Ih ?_⟩;rw[HG.out,Hbx.out,show u={u with path:=u.path} from rfl];have h1:({u with path:=b.path}:Lz.UrlL)=_:=hux;have h2:=congrArg (fun z:Lz.UrlL=>({z with query:=qry2.data.toList,hasQuery:=hq2}:Lz.UrlL)) h1;rw[Hbx.out]at h2;exact h2.symm)
    clear hr hux hk hcells hm2 m1 m2 hbb
    go_wp2_with fail
    go_region
    all_goals
     go_end0
     exact HF.out _ (by first |exact Below.refl _ _|exact(Below.refl _ _).drew)
 ·have g0:=text_no hr;have hem:r.toList.isEmpty=false:=isEmpty_of_pos (by rw[<-len_of_size];exact List.length_pos_iff.2 hr)
  have HG:Hid (goal=Lz.onP {u with path:=Lz.shortP u.scheme b.path} r.data.toList):=by
   show _=_;rw[Hgoal.out];unfold Lz.pathU;rw[if_pos hr]
  have cS:=Ih (shorten_any B M _ wx hm2 (by show b.path.length<=_;omega));clear hr
  go_wp2_with fail
  refine cS.out.mono ?_;rintro e w3 ⟨rfl,hb3,hm3⟩;have hb03:=hb2.trans hb3;have hsl:=shortP_len u.scheme b.path;have cO:=Ih (on_any B M r _ w3 (hE2.at hb3 hBg) hm3 (Nat.le_trans hB2 hb3.size) hBg (by show(Lz.shortP u.scheme b.path).length+_<=_;omega))
  go_wp2_with fail
  refine cO.out.mono ?_;rintro e w4 ⟨rfl,hb4,hm4⟩
  go_wp2_with fail
  go_end0
  refine⟨rfl,hb03.trans hb4,?_⟩;rw[HG.out];exact hm4
end Go.Proofs.YtjhccadmmnjpeaaGreatDoor
namespace Lz
open Go
theorem lead_drop (sp:Bool) (l:Bs):l.dropWhile (slashQ sp)=l.drop (leadS sp l):=by
 unfold leadS
 induction l with
 | nil=>rfl
 | cons c r ih=>
   cases h:slashQ sp c with
   | true=>simp[h,ih]
   | false=>simp[h]
theorem lead_le (sp:Bool) (l:Bs):leadS sp l<=l.length:=by
 unfold leadS
 induction l with
 | nil=>simp
 | cons c r ih=>
   cases h:slashQ sp c with
   | true=>simp[h,ih]
   | false=>simp[h]
end Lz
namespace Go.Proofs.YtjhccadmmnjpeaaGreatDoor
open Go.RowKit
theorem slashB_asc (sp:Bool):∀(j:Nat) b,(slashB sp).data.toList[j]? =some b->b.toNat<128:=by
 cases sp
 ·exact ascii_of_all (by decide)
 ·exact ascii_of_all (by decide)
theorem slashB_size (sp:Bool):(slashB sp).size<4294967281:=by cases sp<;>decide
theorem TrimLeft_sl (s:ByteArray) (sp:Bool) (w:World):Calls Tryz.prog 108 #[.string s,.string (slashB sp)] w (RStr (s.data.toList.drop (Lz.leadS sp s.data.toList)) w):=by
 refine(Any.strings_TrimLeft_laid Tryz.lays161 (by kernel_rfl) s (slashB sp) w (slashB_size sp) (slashB_asc sp)).mono ?_;rintro e w' ⟨h1,h2⟩;refine⟨_,h1,Ih ?_,h2⟩;show Lib.trimLeftS s.data.toList (slashB sp).data.toList=_;unfold Lib.trimLeftS
 have:(slashB sp).data.toList.contains=Lz.slashQ sp:=by
  rw[<-Lz.slash_contains sp];cases sp<;>rfl
 rw[<-Lz.lead_drop,this]
theorem extract_from (s:ByteArray) (k:Nat):(s.extract k s.size).data.toList=s.data.toList.drop k:=extract_tail' s k
theorem urlSize:(Tryz.prog.info? 36).map (·.size)=some 12:=by kernel_rfl
theorem relU_def (u b:Lz.UrlL) (r:List UInt8) (sp:Bool) (hsp:Lz.specP u.scheme=sp):Lz.relU u b r=if 1<Lz.leadS sp r then Lz.hostedU u (if sp then r.drop (Lz.leadS sp r)else r.drop 2)else if Lz.leadS sp r=1 then .ok (Lz.onP (Lz.restU u b) (r.drop 1))else .ok (Lz.pathU (Lz.restU u b) b r):=by
 unfold Lz.relU;rw[hsp]
theorem relM_any (B M:Nat) (u b:Lz.UrlL) (v:Value) (r:ByteArray) (hr:r.size<=900000) (w:World) (hE:EnvH w) (hm:MkIs B M w u) (hB:B<=w.heap.size) (hBg:13<=B) (hv:UrlKept B w v b) (hL:b.path.length<=40000000) (hL2:u.path.length<=40000000):
  Calls Tryz.prog 105 #[.pointer (some ⟨M,0,none⟩),v,.string r] w (RMkE B M (Lz.relU u b r.data.toList) w):=by
 obtain⟨sch2,usr2,pas2,hh2,hst2,prt2,opq2,a2,c2,xs2,hq2,hf2,qry2,frg2,hvv,hbx,hcells2⟩:=hv.now.form;obtain⟨W,hW⟩:∃W,W=w.alloc (.cells #[.string sch2,.string usr2,.string pas2,.bool hh2,.string hst2,.int .i64 prt2,.bool opq2,.slice a2 xs2.length c2,.bool hq2,.bool hf2,.string qry2,.string frg2] 36):=⟨_,rfl⟩;have hbW:Below w.heap.size w W:=by rw[hW];exact(Below.refl _ w).alloc (Nat.le_refl _) _
 have hBW:B<=W.heap.size:=Nat.le_trans hB hbW.size
 have hR:W.heap[w.heap.size]? =some (.cells #[.string sch2,.string usr2,.string pas2,.bool hh2,.string hst2,.int .i64 prt2,.bool opq2,.slice a2 xs2.length c2,.bool hq2,.bool hf2,.string qry2,.string frg2] 36 (0,0)):=by
  rw[hW];show(w.heap.push _)[w.heap.size]? =_;simp
 have hwl:w.heap.size<W.heap.size:=row_lt hR;have hmW:=hm.below hbW;have hEW:=hE.below hbW;have hMl:M<w.heap.size:=by obtain⟨x,hx,_⟩:=hm;exact row_lt hx.row
 obtain⟨sp,hsp⟩:∃sp,sp=Lz.specP u.scheme:=⟨_,rfl⟩;obtain⟨n,hn⟩:∃n,n=Lz.leadS sp r.data.toList:=⟨_,rfl⟩;have hU:=relU_def u b r.data.toList sp hsp.symm;rw[<-hn]at hU;obtain⟨goal,hgoal⟩:∃goal,goal=Lz.relU u b r.data.toList:=⟨_,rfl⟩;rw[<-hgoal]at hU⊢
 have h12:W.cell? ⟨M,12,none⟩=some (.bool sp)/\W.cell? ⟨M,13,none⟩=some (.string (slashB sp)):=by
  obtain⟨sch,usr,pas,hh,hst,prt,opq,a,c,xs,hq,hf,qry,frg,hk,rfl,_,_⟩:=hmW.form;rw[hsp];exact⟨rowAt hk.row 12 _ rfl,rowAt hk.row 13 _ rfl⟩
 obtain⟨h12,h13⟩:=h12;have cT:=Ih (TrimLeft_sl r sp W);rw[<-hn]at cT;have hnl:n<=r.size:=by rw[hn,<-len_of_size];exact Lz.lead_le _ _
 have HV:=Ih hv;have HU:=Ih hU;have HR:=Ih hR;have HM:=Ih hmW;have HW:Hid (W=w.alloc (.cells #[.string sch2,.string usr2,.string pas2,.bool hh2,.string hst2,.int .i64 prt2,.bool opq2,.slice a2 xs2.length c2,.bool hq2,.bool hf2,.string qry2,.string frg2] 36)):=Ih hW;have Hvv:=Ih hvv.symm;subst hvv;clear hv hU hR hmW hm hE hcells2 hgoal hn hsp hbx hW;go_enter Tryz.func105,Tryz.ntmps105
 go_wp2_with (rw[<-HW.out])
 refine cT.out.mono ?_;rintro e w1 ⟨tb,rfl,htb,hb1⟩;have htz:tb.size=r.size-n:=by rw[<-len_of_size,htb.out,List.length_drop,len_of_size]
 have hsub:(r.size:Int)-(tb.size:Int)=(n:Int):=by omega
 have hsub2:IntKind.i64.wrap (n:Int)=(n:Int):=IntWalk.i64_in _ (by omega);have g12:w1.cell? ⟨M,12,none⟩=some (.bool sp):=by rw[hb1.cell (p:=⟨M,12,none⟩) (show M<_ by omega)];exact h12
 have hR1:w1.heap[w.heap.size]? =_:=(hb1.block _ hwl).trans HR.out;have hm1:=HM.out.below hb1;have hE1:=hEW.below hb1;have hB1:B<=w1.heap.size:=Nat.le_trans hBW hb1.size;have hb01:Below B w w1:=(hbW.mono hB).trans (hb1.mono hBW);have hv1:=HV.out.at hb01;have hwl1:w.heap.size<w1.heap.size:=row_lt hR1;clear htb htz cT h12 h13;rcases Nat.lt_or_ge 1 n with hn1|hn1
 ·have hn1I:(1:Int)<(n:Int):=by omega
  have hn0:(0:Int)<=(n:Int):=by omega
  have hnI:(n:Int)<=(r.size:Int):=by omega
  have h2I:(2:Int)<=(r.size:Int):=by omega
  cases sp with
  | true=>
    have HG:Hid (goal=Lz.hostedU u (r.extract n r.size).data.toList):=by show _=_;rw[HU.out,if_pos hn1,if_pos rfl,extract_from]
    have cH:=Ih (hostedM_any B M u (r.extract n r.size) (by have:=extract_size_le' r n r.size;omega) w1 hE1 hm1 hB1 hBg (by omega))
    go_wp2_with fail
    refine cH.out.mono ?_;rintro e w2 ⟨v2,rfl,hb2,hres⟩
    go_wp2_with fail
    go_ret;refine⟨_,rfl,hb01.trans hb2,?_⟩;rw[HG.out];exact hres
  | false=>
    have HG:Hid (goal=Lz.hostedU u (r.extract 2 r.size).data.toList):=by show _=_;rw[HU.out,if_pos hn1,if_neg (by simp),extract_from]
    have cH:=Ih (hostedM_any B M u (r.extract 2 r.size) (by have:=extract_size_le' r 2 r.size;omega) w1 hE1 hm1 hB1 hBg (by omega))
    go_wp2_with fail
    refine cH.out.mono ?_;rintro e w2 ⟨v2,rfl,hb2,hres⟩
    go_wp2_with fail
    go_ret;refine⟨_,rfl,hb01.trans hb2,?_⟩;rw[HG.out];exact hres
 ·have hn1I:¬((1:Int)<(n:Int)):=by omega
  have cR:=rest_any B M u b _ w1 hm1 hB1 (hv1.now);have CR:=Ih cR;clear cR;by_cases hn2:n=1
  ·have hnb:((n:Int)==1)=true:=by rw[hn2];rfl
   have h1I:(1:Int)<=(r.size:Int):=by omega
   have HG:Hid (goal=.ok (Lz.onP (Lz.restU u b) (r.extract 1 r.size).data.toList)):=by show _=_;rw[HU.out,if_neg (by omega),if_pos hn2,extract_from]
   clear hn2;have HRX:=hR1
   go_wp2_with (refine wpList_load_row rfl 36 (.tmp 4) rfl w.heap.size rfl 36 _ (0,0) _ HRX Tryz.underlying36 rfl urlSize ?_)
   refine CR.out.mono ?_;rintro e w2 ⟨⟨rfl,hb2,hm2⟩,_⟩;have hb02:=hb01.trans hb2;have cO:=Ih (on_any B M (r.extract 1 r.size) _ w2 (hE1.at hb2 hBg) hm2 (Nat.le_trans hB1 hb2.size) hBg (by show u.path.length+_<=_;have:=extract_size_le' r 1 r.size;omega))
   go_wp2_with fail
   refine cO.out.mono ?_;rintro e w3 ⟨rfl,hb3,hm3⟩
   go_wp2_with fail
   go_ret;refine⟨_,rfl,hb02.trans hb3,?_⟩;rw[HG.out];exact⟨rfl,hm3⟩
  ·have hnb:((n:Int)==1)=false:=by rw[beq_eq_false_iff_ne];omega
   have HG:Hid (goal=.ok (Lz.pathU (Lz.restU u b) b r.data.toList)):=by show _=_;rw[HU.out,if_neg (by omega),if_neg hn2]
   clear hn2;have HRX:=hR1
   go_wp2_with (refine wpList_load_row rfl 36 (.tmp 4) rfl w.heap.size rfl 36 _ (0,0) _ HRX Tryz.underlying36 rfl urlSize ?_)
   refine CR.out.mono ?_;rintro e w2 ⟨⟨rfl,hb2,hm2⟩,hkeep⟩;have hR2:=(hkeep w.heap.size hwl1 (by omega)).trans hR1;have hb02:=hb01.trans hb2;have cP:=Ih (pathM_any B M _ b _ r w2 (hE1.at hb2 hBg) hm2 (Nat.le_trans hB1 hb2.size) hBg (hv1.at hb2).now (by omega));clear hkeep HRX hR1;have HRX:=hR2
   go_wp2_with (refine wpList_load_row rfl 36 (.tmp 4) rfl w.heap.size rfl 36 _ (0,0) _ HRX Tryz.underlying36 rfl urlSize ?_)
   refine cP.out.mono ?_;rintro e w3 ⟨rfl,hb3,hm3⟩
   go_wp2_with fail
   go_ret;refine⟨_,rfl,hb02.trans hb3,?_⟩;rw[HG.out];exact⟨rfl,hm3⟩
end Go.Proofs.YtjhccadmmnjpeaaGreatDoor
