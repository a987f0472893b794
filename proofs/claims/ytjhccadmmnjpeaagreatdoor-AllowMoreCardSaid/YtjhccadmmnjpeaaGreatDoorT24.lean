/-
  Package urls: hosted, rest.
-/
import Derived.Test.YtjhccadmmnjpeaaGreatDoorT21
import Derived.Test.YtjhccadmmnjpeaaGreatDoorT23
set_option maxHeartbeats 2000000
set_option maxRecDepth 100000
namespace Go.Proofs.YtjhccadmmnjpeaaGreatDoor
open Go.RowKit
theorem hostedM_any (B M:Nat) (u:Lz.UrlL) (s:ByteArray) (hs:s.size<=900000) (w:World) (hE:EnvH w) (hm:MkIs B M w u) (hB:B<=w.heap.size) (hBg:13<=B) (hL:u.path.length<=50000000):
  Calls Tryz.prog 107 #[.pointer (some ⟨M,0,none⟩),.string s] w (RMkE B M (Lz.hostedU u s.data.toList) w):=by
 obtain⟨sp,hsp⟩:∃sp,sp=Lz.specP u.scheme:=⟨_,rfl⟩
 have h13:w.cell? ⟨M,13,none⟩=some (.string (slashB sp)):=by
  obtain⟨sch,usr,pas,hh,hst,prt,opq,a,c,xs,hq,hf,qry,frg,hk,rfl,_,_⟩:=hm.form;rw[hsp];exact rowAt hk.row 13 _ rfl
 have cC:=Ih (cutM_any M sp s (by omega) w h13);have hlen:=Lz.cutS_len sp s.data.toList;obtain⟨goal,hgoal⟩:∃goal,goal=Lz.hostedU u s.data.toList:=⟨_,rfl⟩;rw[<-hgoal]
 have hU:goal=(Lz.authU u (Lz.cutS sp s.data.toList).1).bind fun v=>.ok (if(Lz.cutS sp s.data.toList).2.2||Lz.specP v.scheme then Lz.onP v (Lz.cutS sp s.data.toList).2.1 else v):=by
  rw[hgoal,hsp];rfl
 generalize Lz.cutS sp s.data.toList=cc at cC hU hlen;obtain⟨al,tl,more⟩:=cc;simp only[len_of_size]at hlen;have HU:=Ih hU;have Hm:=Ih hm;have HE:=Ih hE;clear hU hm hE h13 hgoal;go_enter Tryz.func107,Tryz.ntmps107
 go_wp2_with fail
 refine cC.out.mono ?_;rintro e w1 ⟨ab,tb,rfl,hab,htb,hb1⟩;have has:ab.size<=s.size:=by rw[<-len_of_size,hab.out];omega
 have hts:tb.size<=s.size:=by rw[<-len_of_size,htb.out];omega
 have hm1:=Hm.out.below hb1;have hE1:=HE.out.below hb1;have hbB:=hb1.mono hB;have hB1:B<=w1.heap.size:=Nat.le_trans hB hb1.size;have cA:=Ih (authM_any B M u ab (by omega) w1 hE1 hm1 hB1 hBg);have hU2:goal=(Lz.authU u ab.data.toList).bind fun v=>.ok (if more||Lz.specP v.scheme then Lz.onP v tb.data.toList else v):=by rw[HU.out,hab.out,htb.out]
 generalize hr:Lz.authU u ab.data.toList=r at cA hU2;have HU2:=Ih hU2;have hrp:∀v,r=.ok v->v.path.length<=50000000:=fun v hv=>by rw[(Lz.authU_path (hr.trans hv)).1];exact hL
 have Hrp:=Ih hrp;clear hab htb hr hrp cC hU2 HU
 go_wp2_with fail
 refine cA.out.mono ?_;rintro e w2 ⟨v,rfl,hb2,hres⟩;have hb02:=hbB.trans hb2;have hB2:B<=w2.heap.size:=Nat.le_trans hB1 hb2.size;have hE2:=hE1.at hb2 hBg;cases r with
 | er n=>
   obtain⟨p,rfl⟩:=hres;clear cA
   go_wp2_with fail
   go_ret;refine⟨_,rfl,hb02,?_⟩;rw[HU2.out];exact⟨p,rfl⟩
 | ok u2=>
   obtain⟨rfl,hm2⟩:=hres;have hl2:=Hrp.out u2 rfl;obtain⟨sch,usr,pas,hh,hst,prt,opq,a,c,xs,hq,hf,qry,frg,hk,hux,hc,hcells⟩:=hm2.form;have hus:u2.scheme=sch.data.toList:=by rw[hux]
   have c12:=rowAt hk.row 12 (.bool (Lz.specP sch.data.toList)) rfl;rw[<-hus]at c12;have hG2:goal=Lz.UR.ok (if more||Lz.specP u2.scheme then Lz.onP u2 tb.data.toList else u2):=HU2.out;generalize Lz.specP u2.scheme=q at c12 hG2;have HG2:=Ih hG2;have cO:=Ih (on_any B M tb u2 w2 hE2 hm2 hB2 hBg (by omega));have Hm2:=Ih hm2;clear hux hk hcells hus cA hG2 hm2 hE2 hE1 hm1;cases more with
   | true=>
     go_wp2_with fail
     refine cO.out.mono ?_;rintro e w3 ⟨rfl,hb3,hm3⟩
     go_wp2_with fail
     go_ret;refine⟨_,rfl,hb02.trans hb3,?_⟩;rw[HG2.out];exact⟨rfl,hm3⟩
   | false=>
     cases q with
     | true=>
       go_wp2_with fail
       refine cO.out.mono ?_;rintro e w3 ⟨rfl,hb3,hm3⟩
       go_wp2_with fail
       go_ret;refine⟨_,rfl,hb02.trans hb3,?_⟩;rw[HG2.out];exact⟨rfl,hm3⟩
     | false=>
       go_wp2_with fail
       go_ret;refine⟨_,rfl,hb02,?_⟩;rw[HG2.out];exact⟨rfl,Hm2.out⟩
def MkV.val (x:MkV):Value:=.agg #[.string x.sch,.string x.usr,.string x.pas,.bool x.hh,.string x.hst,.int .i64 x.prt,.bool x.opq,x.pv,.bool x.hq,.bool x.hf,.string x.qry,.string x.frg]
def UrlVal (w:World) (v:Value) (u:Lz.UrlL):Prop:=∃x:MkV,v=x.val/\PathAt w x.pv (x.xs.map (fun x:ByteArray=>x.data.toList))/\Hid (x.url=u)
theorem UrlVal.form {w:World} {v:Value} {u:Lz.UrlL} (h:UrlVal w v u):∃(sch usr pas:ByteArray) (hh:Bool) (hst:ByteArray) (prt:Int) (opq:Bool) (a:Option Addr) (c:Nat) (xs:List ByteArray) (hq hf:Bool) (qry frg:ByteArray),
  v=.agg #[.string sch,.string usr,.string pas,.bool hh,.string hst,.int .i64 prt,.bool opq,.slice a xs.length c,.bool hq,.bool hf,.string qry,.string frg]/\
  u=⟨sch.data.toList,usr.data.toList,pas.data.toList,hh,hst.data.toList,prt,opq,xs.map (fun x:ByteArray=>x.data.toList),hq,hf,qry.data.toList,frg.data.toList⟩/\
  ∀(j:Nat) (x:ByteArray),xs[j]? =some x->∃G off,a=some ⟨G,off,none⟩/\G<w.heap.size/\w.cell? ⟨G,off+j,none⟩=some (.string x):=by
 obtain⟨⟨sch,usr,pas,hh,hst,prt,opq,pv,xs,hq,hf,qry,frg⟩,rfl,hp,hu⟩:=h;obtain⟨a,c,ys,hpv,hys,hcells⟩:=hp;have hpv':pv=.slice a ys.length c:=hpv;subst hpv';refine⟨sch,usr,pas,hh,hst,prt,opq,a,c,ys,hq,hf,qry,frg,rfl,?_,hcells⟩;rw[<-hu.out,hys];rfl
def UrlKept (B:Nat) (w:World) (v:Value) (u:Lz.UrlL):Prop:=∀w',Below B w w'->UrlVal w' v u
theorem UrlKept.now {B:Nat} {w:World} {v:Value} {u:Lz.UrlL} (h:UrlKept B w v u):UrlVal w v u:=h w (Below.refl _ _)
theorem UrlKept.at {B:Nat} {w w':World} {v:Value} {u:Lz.UrlL} (h:UrlKept B w v u) (hb:Below B w w'):UrlKept B w' v u:=fun w2 h2=>h w2 (hb.trans h2)
def RRest (B M:Nat) (u:Lz.UrlL) (w:World) (e:Ending) (w':World):Prop:=RMk B M u w e w'/\∀k,k<w.heap.size->k≠M->w'.heap[k]? =w.heap[k]?
theorem rest_any (B M:Nat) (u b:Lz.UrlL) (v:Value) (w:World) (hm:MkIs B M w u) (hB:B<=w.heap.size) (hv:UrlVal w v b):
  Calls Tryz.prog 163 #[.pointer (some ⟨M,0,none⟩),v] w (RRest B M (Lz.restU u b) w):=by
 obtain⟨sch,usr,pas,hh,hst,prt,opq,a,c,xs,hq,hf,qry,frg,hk,rfl,hc,hcells⟩:=hm.form;obtain⟨sch2,usr2,pas2,hh2,hst2,prt2,opq2,a2,c2,xs2,hq2,hf2,qry2,frg2,rfl,rfl,hcells2⟩:=hv.form;go_enter Tryz.func163,Tryz.ntmps163;have hMl:M<w.heap.size:=row_lt hk.row;have hMn:¬M=w.heap.size:=by omega
 have hMn2:¬w.heap.size=M:=by omega
 have c1:=rowAt hk.row 1 (.string usr) rfl;have c2:=rowAt hk.row 2 (.string pas) rfl;have c3:=rowAt hk.row 3 (.bool hh) rfl;have c4:=rowAt hk.row 4 (.string hst) rfl;have c5:=rowAt hk.row 5 (.int .i64 prt) rfl;have f1:=rowFz hk.row 1;have f2:=rowFz hk.row 2;have f3:=rowFz hk.row 3;have f4:=rowFz hk.row 4;have f5:=rowFz hk.row 5;have m1:=mk_set hk 1 (.string usr2) ⟨sch,usr2,pas,hh,hst,prt,opq,.slice a xs.length c,xs,hq,hf,qry,frg⟩ (Lz.specP sch.data.toList) (slashB (Lz.specP sch.data.toList)) (by simp) (fun _ h=>h);have m2:=mk_set m1 2 (.string pas2) ⟨sch,usr2,pas2,hh,hst,prt,opq,.slice a xs.length c,xs,hq,hf,qry,frg⟩ (Lz.specP sch.data.toList) (slashB (Lz.specP sch.data.toList)) (by simp) (fun _ h=>h);have m3:=mk_set m2 3 (.bool hh2) ⟨sch,usr2,pas2,hh2,hst,prt,opq,.slice a xs.length c,xs,hq,hf,qry,frg⟩ (Lz.specP sch.data.toList) (slashB (Lz.specP sch.data.toList)) (by simp) (fun _ h=>h);have m4:=mk_set m3 4 (.string hst2) ⟨sch,usr2,pas2,hh2,hst2,prt,opq,.slice a xs.length c,xs,hq,hf,qry,frg⟩ (Lz.specP sch.data.toList) (slashB (Lz.specP sch.data.toList)) (by simp) (fun _ h=>h)
 have m5:=mk_set m4 5 (.int .i64 prt2) ⟨sch,usr2,pas2,hh2,hst2,prt2,opq,.slice a xs.length c,xs,hq,hf,qry,frg⟩ (Lz.specP sch.data.toList) (slashB (Lz.specP sch.data.toList)) (by simp) (fun _ h=>h);have hbb:Below B w (((((w.setCell ⟨M,1,none⟩ (.string usr2)).setCell ⟨M,2,none⟩ (.string pas2)).setCell ⟨M,3,none⟩ (.bool hh2)).setCell ⟨M,4,none⟩ (.string hst2)).setCell ⟨M,5,none⟩ (.int .i64 prt2)):=(((((Below.refl B w).setCell (p:=⟨M,1,none⟩) hk.le _).setCell (p:=⟨M,2,none⟩) hk.le _).setCell (p:=⟨M,3,none⟩) hk.le _).setCell (p:=⟨M,4,none⟩) hk.le _).setCell (p:=⟨M,5,none⟩) hk.le _;have hsz:(((((w.setCell ⟨M,1,none⟩ (.string usr2)).setCell ⟨M,2,none⟩ (.string pas2)).setCell ⟨M,3,none⟩ (.bool hh2)).setCell ⟨M,4,none⟩ (.string hst2)).setCell ⟨M,5,none⟩ (.int .i64 prt2)).heap.size=w.heap.size:=by simp
 have HE:Hid (∀wx:World,Below w.heap.size (((((w.setCell ⟨M,1,none⟩ (.string usr2)).setCell ⟨M,2,none⟩ (.string pas2)).setCell ⟨M,3,none⟩ (.bool hh2)).setCell ⟨M,4,none⟩ (.string hst2)).setCell ⟨M,5,none⟩ (.int .i64 prt2)) wx->
   RRest B M (Lz.restU ⟨sch.data.toList,usr.data.toList,pas.data.toList,hh,hst.data.toList,prt,opq,xs.map (fun x:ByteArray=>x.data.toList),hq,hf,qry.data.toList,frg.data.toList⟩ ⟨sch2.data.toList,usr2.data.toList,pas2.data.toList,hh2,hst2.data.toList,prt2,opq2,xs2.map (fun x:ByteArray=>x.data.toList),hq2,hf2,qry2.data.toList,frg2.data.toList⟩) w (.returned (.tuple #[])) wx):=by
  intro wx hb;refine⟨⟨rfl,hbb.trans (hb.mono hB),_,m5.below (by rw[hsz];exact hb),Ih rfl⟩,fun k hkl hkM=>?_⟩;rw[hb.block k hkl,setCell_other hkM,setCell_other hkM,setCell_other hkM,setCell_other hkM,setCell_other hkM]
 clear m1 m2 m3 m4 m5 hbb hsz hk hm hv hcells hcells2
 go_wp2_with fail
 go_region
 all_goals
  go_end0
  exact HE.out _ ((Below.refl _ _).alloc (by simp) _).drew
end Go.Proofs.YtjhccadmmnjpeaaGreatDoor
