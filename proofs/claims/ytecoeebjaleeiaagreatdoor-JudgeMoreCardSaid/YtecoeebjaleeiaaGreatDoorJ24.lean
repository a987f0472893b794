/-
  Package urls: main.
-/
import Derived.Test.YtecoeebjaleeiaaGreatDoorJ23
import Derived.Test.YtecoeebjaleeiaaGreatDoorJ15
set_option maxHeartbeats 4000000
set_option maxRecDepth 100000
namespace Go.Proofs.YtecoeebjaleeiaaGreatDoor
open Go.RowKit
theorem iy (s t:ByteArray):(s.toList==t.toList)=decide (s.data.toList=t.data.toList):=by
 rw[Lib.toList_data,Lib.toList_data,Bool.eq_iff_iff];simp
theorem Nh {B M:Nat} {w w1:World} {u:Lz.ag} (hm:dS B M w1 u) (hb:Below B w w1) (q:Bool):
  Below B w (w1.setCell ⟨M,6,none⟩ (.bool q))/\dS B M (w1.setCell ⟨M,6,none⟩ (.bool q)) {u with opq:=q}:=by
 obtain⟨sch,usr,pas,hh,hst,prt,opq,a,c,ys,hq,hf,qry,frg,hk,rfl,hc,aA⟩:=hm.form;exact⟨hb.setCell (p:=⟨M,6,none⟩) hk.le _,_,dG hk 6 (.bool q) ⟨sch,usr,pas,hh,hst,prt,q,.slice a ys.length c,ys,hq,hf,qry,frg⟩ (Lz.ai sch.data.toList) (bp (Lz.ai sch.data.toList)) (by simp) (fun _ h=>h),Ih rfl⟩
def R0 (u:Lz.ag) (a r:List UInt8):Option Lz.ag->Lz.UR
 | some x=>if x.scheme=a/\Lib.hasPrefix r [47,47]=false then Lz.mj u x r else Lz.bT u (r.drop (Lz.fg true r))
 | none=>Lz.bT u (r.drop (Lz.fg true r))
def Gr (u:Lz.ag) (r:List UInt8):Lz.UR:=
 if Lib.hasPrefix r [47,47]then Lz.bT u (r.drop 2)
 else if Lib.hasPrefix r [47]then .ok (Lz.onP u (r.drop 1))
 else .ok {u with opq:=true,path:=[Lz.aj [] r]}
def okU (u:Lz.ag) (a r:List UInt8) (b:Option Lz.ag):Lz.UR:=if a=Lz.bM then Lz.em u b r else if Lz.ai a then R0 u a r b else Gr u r
theorem NZ (u:Lz.ag) (s:List UInt8) (b:Option Lz.ag) {a r:List UInt8} (h:Lz.aQ s=(a,r,true)):Lz.iH u s b=okU {u with scheme:=a} a r b:=by
 unfold Lz.iH okU Gr;rw[h];cases b<;>rfl
theorem NM (u:Lz.ag) (s:List UInt8) (b:Option Lz.ag) (h:(Lz.aQ s).2.2=false):Lz.iH u s b=match b with
  | none=>.er 82
  | some x=>if x.opq&&(!s.isEmpty||u.hasQuery|| !u.hasFragment)then .er 82
    else if x.opq then .ok (Lz.ek {u with scheme:=x.scheme,opq:=true} x [])
    else if x.scheme=Lz.bM then Lz.em {u with scheme:=x.scheme} b s
    else Lz.mj {u with scheme:=x.scheme} x s:=by
 unfold Lz.iH;simp only[h];cases b<;>rfl
theorem DT {s:List UInt8} (h:(Lz.aQ s).2.2=false):Lz.aQ s=([],s,false):=by
 rw[xK]at h⊢;split
 ·rename_i h2;rw[if_pos h2]at h;cases h
 ·rfl
theorem rJ {s p:List UInt8} (h:Lib.hasPrefix s p=true):p.length<=s.length:=(List.isPrefixOf_iff_prefix.1 h).length_le
theorem KX (B M:Nat) (x:MkV) (u:Lz.ag) (hx:x.url=u) (b:Option Lz.ag) (bv:Value) (s:ByteArray) (hs:s.size<=800000) (w:World) (hE:dQ w) (hm:nT B M w x false ⟨#[]⟩) (hB:B<=w.heap.size) (kg:15<=B) (JF:iJ B w bv b) (hL:∀y,b=some y->y.path.length<=30000000) (ZT:u.path.length<=30000000):
  Calls Tryz.prog 26 #[.pointer (some ⟨M,0,none⟩),.string s,bv] w (Ei B M (Lz.iH u s.data.toList b) w):=by
 obtain⟨goal,dY⟩:∃goal,goal=Lz.iH u s.data.toList b:=⟨_,rfl⟩;rw[<-dY];have cS:=BH s (by omega) w hE;have WW:(Lz.aQ s.data.toList).2.2=true->(Lz.aQ s.data.toList).1.length+1+(Lz.aQ s.data.toList).2.1.length=s.size:=fun h=>by rw[Lz.uE h,aa]
 cases nV:(Lz.aQ s.data.toList).2.2 with
 | true=>
   obtain⟨al,jd⟩:∃al,al=(Lz.aQ s.data.toList).1:=⟨_,rfl⟩;obtain⟨rl,PV⟩:∃rl,rl=(Lz.aQ s.data.toList).2.1:=⟨_,rfl⟩;have hU:=NZ u s.data.toList b (a:=al) (r:=rl) (by rw[jd,PV,<-nV]);rw[<-dY]at hU;have ba:=WW nV;rw[<-jd,<-PV,nV]at cS;rw[<-jd,<-PV]at ba;have CS:=Ih cS;have HU:=Ih hU;have HE:=Ih hE;have HM:=Ih hm;have HBv:=Ih JF;clear dY cS WW nV jd PV hU hE hm JF;go_enter Tryz.func26,Tryz.ntmps26
   go_wp2_with fail
   refine CS.out.mono ?_;rintro e w1 ⟨a,r,rfl,ha,hr,ar⟩;have har:a.size+1+r.size=s.size:=by rw[<-aa a,<-aa r,ha.out,hr.out];exact ba
   have EW:Hid (goal=okU {u with scheme:=a.data.toList} a.data.toList r.data.toList b):=by
    show _=_;rw[HU.out,ha.out,hr.out]
   have cA:=Ih (G3 B M x false ⟨#[]⟩ a w1 (HM.out.below ar));clear ha hr ba HU CS
   go_wp2_with fail
   refine cA.out.mono ?_;rintro e w2 ⟨rfl,az,jy⟩;have bI:Below B w w2:=(ar.mono hB).trans az;have jU:B<=w2.heap.size:=Nat.le_trans hB bI.size;have mP:=HE.out.at bI kg;have PQ:=HBv.out.at bI;obtain⟨u2,qM⟩:∃u2,u2=({u with scheme:=a.data.toList}:Lz.ag):=⟨_,rfl⟩;have Cw:dS B M w2 u2:=⟨{x with sch:=a},jy,Ih (by rw[qM,<-hx];rfl)⟩
   have TX:Hid (goal=okU u2 a.data.toList r.data.toList b):=by
    show _=_;rw[EW.out,qM]
   have dN:u2.scheme=a.data.toList:=by rw[qM]
   have AM:u2.path.length<=30000000:=by rw[qM];exact ZT
   have Pl:=Ih PQ;clear EW jy hx qM HE HM HBv cA PQ;by_cases hf:a.data.toList=Lz.bM
   ·have g0:=bg (k:=[102,105,108,101]) hf;have HG:Hid (goal=Lz.em u2 b r.data.toList):=by show _=_;rw[TX.out,okU,if_pos hf]
    have cF:=Ih (xO B M u2 b bv r (by omega) w2 mP Cw jU kg Pl.out (fun y hy=>by have:=hL y hy;omega) (by omega) (by rw[dN,hf]));clear TX hf
    go_wp2_with fail
    refine cF.out.mono ?_;rintro e w3 ⟨v,rfl,aO,bA⟩
    go_wp2_with fail
    go_ret;refine⟨_,rfl,bI.trans aO,?_⟩;rw[HG.out];exact bA
   ·have g0:=bN (k:=[102,105,108,101]) hf;obtain⟨sp,gT⟩:∃sp,sp=Lz.ai a.data.toList:=⟨_,rfl⟩;obtain⟨h12,sw⟩:=Nc Cw (sp:=sp) (by rw[dN];exact gT)
    have HU4:Hid (goal=if sp then R0 u2 a.data.toList r.data.toList b else Gr u2 r.data.toList):=by
     show _=_;rw[TX.out,okU,if_neg hf,gT]
    clear TX hf gT;have Yu:=Ih (fun W=>jH r ⟨#[47,47]⟩ W);obtain⟨p2,WB⟩:∃p2,p2=Lib.hasPrefix r.data.toList [47,47]:=⟨_,rfl⟩;rw[show Lib.hasPrefix r.data.toList (⟨#[47,47]⟩:ByteArray).data.toList=p2 from WB.symm]at Yu;have Hp2:=Ih WB;clear WB;cases sp with
    | true=>
      have O5:Hid (goal=R0 u2 a.data.toList r.data.toList b):=Ih HU4.out;have pL:(r.data.toList.drop (Lz.fg true r.data.toList)).length<=r.size:=by rw[List.length_drop,aa];omega
      have cT:=Ih (oE r true w2)
      have cH:Hid (∀(W:World) (t:ByteArray),Below w2.heap.size w2 W->Hid (t.data.toList=r.data.toList.drop (Lz.fg true r.data.toList))->Calls Tryz.prog 60 #[.pointer (some ⟨M,0,none⟩),.string t] W (Ei B M (Lz.bT u2 (r.data.toList.drop (Lz.fg true r.data.toList))) W)):=Ih (fun W t hW ht=>by
       rw[<-ht.out];have hts:t.size<=r.size:=by rw[<-aa t,ht.out];exact pL
       exact lr B M u2 t (by omega) W (mP.below hW) (Cw.below hW) (Nat.le_trans jU hW.size) kg (by omega))
      cases b with
      | none=>
        have Tr:bv=.pointer none:=Pl.out;subst Tr;have HG:Hid (goal=Lz.bT u2 (r.data.toList.drop (Lz.fg true r.data.toList))):=Ih O5.out;clear HU4 O5 Pl
        go_wp2_with fail
        refine cT.out.mono ?_;rintro e w4 ⟨tb,rfl,Ck,dy⟩;have vu:=bI.trans (dy.mono jU);have cH2:=Ih (cH.out w4 tb dy Ck)
        go_wp2_with fail
        refine cH2.out.mono ?_;rintro e w3 ⟨v,rfl,aO,bA⟩
        go_wp2_with fail
        go_ret;refine⟨_,rfl,vu.trans aO,?_⟩;rw[HG.out];exact bA
      | some y=>
        obtain⟨p,fr,sch,usr,pas,hh,hst,prt,opq,a2,c,xs,bQ,ee,qry,frg,rfl,Pa,aZ,hy,aA⟩:=Pl.out;have d0:=rowAt aZ 0 (.string sch) rfl;have jV:y.scheme=sch.data.toList:=by rw[hy]
        have hK:=sA (sch:=sch) (usr:=usr) (pas:=pas) (hh:=hh) (hst:=hst) (prt:=prt) (opq:=opq) (c:=c) (hq:=bQ) (hf:=ee) (qry:=qry) (frg:=frg) jU aA;rw[<-hy]at hK;have hyL:=hL y rfl;have fh:=iy sch a;have cR:=Ih (Dl B M u2 y _ r (by omega) w2 mP Cw jU kg hK (by omega) (by omega))
        have XI:Hid (goal=if sch.data.toList=a.data.toList/\p2=false then Lz.mj u2 y r.data.toList else Lz.bT u2 (r.data.toList.drop (Lz.fg true r.data.toList))):=by
         show _=_;rw[O5.out,R0,jV,Hp2.out]
        clear HU4 O5 Pl hy jV aA hK;by_cases yk:sch.data.toList=a.data.toList
        ·rw[decide_eq_true yk]at fh;cases p2 with
         | false=>
           have HG:Hid (goal=Lz.mj u2 y r.data.toList):=by show _=_;rw[XI.out,if_pos ⟨yk,rfl⟩]
           clear XI yk
           go_wp2_with fail
           refine(Yu.out _).mono ?_;rintro e w4 ⟨rfl,rfl⟩
           go_wp2_with (refine wpList_load_row rfl 32 (.tmp 122) rfl p rfl 32 _ fr _ aZ Tryz.underlying32 rfl bY ?_)
           refine cR.out.mono ?_;rintro e w3 ⟨v,rfl,aO,bA⟩
           go_wp2_with fail
           go_ret;refine⟨_,rfl,bI.trans aO,?_⟩;rw[HG.out];exact bA
         | true=>
           have HG:Hid (goal=Lz.bT u2 (r.data.toList.drop (Lz.fg true r.data.toList))):=by show _=_;rw[XI.out,if_neg (by simp)]
           clear XI yk
           go_wp2_with fail
           refine(Yu.out _).mono ?_;rintro e w4 ⟨rfl,rfl⟩
           go_wp2_with fail
           refine cT.out.mono ?_;rintro e w4 ⟨tb,rfl,Ck,dy⟩;have vu:=bI.trans (dy.mono jU);have cH2:=Ih (cH.out w4 tb dy Ck)
           go_wp2_with fail
           refine cH2.out.mono ?_;rintro e w3 ⟨v,rfl,aO,bA⟩
           go_wp2_with fail
           go_ret;refine⟨_,rfl,vu.trans aO,?_⟩;rw[HG.out];exact bA
        ·rw[decide_eq_false yk]at fh;have HG:Hid (goal=Lz.bT u2 (r.data.toList.drop (Lz.fg true r.data.toList))):=by show _=_;rw[XI.out,if_neg (fun h=>yk h.1)]
         clear XI yk
         go_wp2_with fail
         refine cT.out.mono ?_;rintro e w4 ⟨tb,rfl,Ck,dy⟩;have vu:=bI.trans (dy.mono jU);have cH2:=Ih (cH.out w4 tb dy Ck)
         go_wp2_with fail
         refine cH2.out.mono ?_;rintro e w3 ⟨v,rfl,aO,bA⟩
         go_wp2_with fail
         go_ret;refine⟨_,rfl,vu.trans aO,?_⟩;rw[HG.out];exact bA
    | false=>
      have O5:Hid (goal=Gr u2 r.data.toList):=Ih HU4.out;clear HU4;cases p2 with
      | true=>
        have h2l:2<=r.size:=by rw[<-aa];exact rJ Hp2.out.symm
        have X3:(2:Int)<=(r.size:Int):=by omega
        have HG:Hid (goal=Lz.bT u2 (r.extract 2 r.size).data.toList):=by show _=_;rw[O5.out,Gr,<-Hp2.out,if_pos rfl,fE]
        have cH:=Ih (lr B M u2 (r.extract 2 r.size) (by have:=aP r 2 r.size;omega) w2 mP Cw jU kg (by omega));clear O5
        go_wp2_with fail
        refine(Yu.out _).mono ?_;rintro e w4 ⟨rfl,rfl⟩
        go_wp2_with fail
        refine cH.out.mono ?_;rintro e w3 ⟨v,rfl,aO,bA⟩
        go_wp2_with fail
        go_ret;refine⟨_,rfl,bI.trans aO,?_⟩;rw[HG.out];exact bA
      | false=>
        have XD:=Ih (fun W=>jH r ⟨#[47]⟩ W);obtain⟨p1,Wk⟩:∃p1,p1=Lib.hasPrefix r.data.toList [47]:=⟨_,rfl⟩;rw[show Lib.hasPrefix r.data.toList (⟨#[47]⟩:ByteArray).data.toList=p1 from Wk.symm]at XD;have Hp1:=Ih Wk;clear Wk;cases p1 with
        | true=>
          have h1l:1<=r.size:=by rw[<-aa];exact rJ Hp1.out.symm
          have h1I:(1:Int)<=(r.size:Int):=by omega
          have HG:Hid (goal=.ok (Lz.onP u2 (r.extract 1 r.size).data.toList)):=by show _=_;rw[O5.out,Gr,<-Hp2.out,if_neg (by simp),<-Hp1.out,if_pos rfl,fE]
          have cO:=Ih (jY B M (r.extract 1 r.size) u2 w2 mP Cw jU kg (by have:=aP r 1 r.size;omega));clear O5
          go_wp2_with fail
          refine(Yu.out _).mono ?_;rintro e w4 ⟨rfl,rfl⟩
          go_wp2_with fail
          refine(XD.out _).mono ?_;rintro e w4 ⟨rfl,rfl⟩
          go_wp2_with fail
          refine cO.out.mono ?_;rintro e w5 ⟨rfl,aI,so⟩
          go_wp2_with fail
          go_ret;refine⟨_,rfl,bI.trans aI,?_⟩;rw[HG.out];exact⟨rfl,so⟩
        | false=>
          have HG:Hid (goal=.ok {u2 with opq:=true,path:=[Lz.aj [] r.data.toList]}):=by show _=_;rw[O5.out,Gr,<-Hp2.out,if_neg (by simp),<-Hp1.out,if_neg (by simp)]
          obtain⟨v6,c6,f6⟩:=gY Cw 6 (by decide);obtain⟨aO,lh⟩:=Nh Cw bI true;have sq:B<=(w2.setCell ⟨M,6,none⟩ (.bool true)).heap.size:=Nat.le_trans hB aO.size;have cE:=Ih (fB 0 (by decide) r (by omega) (w2.setCell ⟨M,6,none⟩ (.bool true)));clear O5
          go_wp2_with fail
          refine(Yu.out _).mono ?_;rintro e w4 ⟨rfl,rfl⟩
          go_wp2_with fail
          refine(XD.out _).mono ?_;rintro e w4 ⟨rfl,rfl⟩
          go_wp2_with fail
          refine cE.out.mono ?_;rintro e w5 ⟨eb,rfl,heb,aI⟩;have so:=lh.below aI;have SR:=aO.trans (aI.mono sq);have Yh:B<=w5.heap.size:=Nat.le_trans hB SR.size;have AK:Below w5.heap.size w5 (w5.alloc (.cells #[.string eb] 9)):=(Below.refl _ _).alloc (Nat.le_refl _) _;obtain⟨fX,Fb⟩:=Bx (so.below AK) (SR.trans (AK.mono Yh)) (Ej w5 B eb);obtain⟨v7,c7,f7⟩:=gY (so.below AK) 7 (by decide)
          have HF:Hid (dS B M ((w5.alloc (.cells #[.string eb] 9)).setCell ⟨M,7,none⟩ (.slice (some ⟨w5.heap.size,0,none⟩) 1 1)) {u2 with opq:=true,path:=[Lz.aj [] r.data.toList]}):=by
           have h1:([eb].map (fun x:ByteArray=>x.data.toList))=[Lz.aj [] r.data.toList]:=by
            show[eb.data.toList]=_;rw[heb.out];rfl
           rw[h1]at Fb;exact Fb
          have Hb6:=Ih fX;clear Fb fX so heb lh
          go_wp2_with fail
          go_ret;refine⟨_,rfl,Hb6.out,?_⟩;rw[HG.out];exact⟨rfl,HF.out⟩
 | false=>
   have hU:=NM u s.data.toList b nV;rw[<-dY]at hU;rw[DT nV]at cS;have CS:=Ih cS;have HE:=Ih hE;clear dY cS WW nV hE;cases b with
   | none=>
     have Tr:bv=.pointer none:=JF;subst Tr;have HG:Hid (goal=.er 82):=Ih hU;clear hU hm hx;go_enter Tryz.func26,Tryz.ntmps26
     go_wp2_with fail
     refine CS.out.mono ?_;rintro e w1 ⟨a,r,rfl,ha,hr,ar⟩;have CE:=ar.mono hB
     go_wp2_with fail
     go_ret;refine⟨_,rfl,CE,?_⟩;rw[HG.out];exact⟨_,rfl⟩
   | some y=>
     simp only at hU;have hyL:=hL y rfl;obtain⟨p,fr,sch,usr,pas,hh,hst,prt,opq,a2,c,xs,bQ,ee,qry,frg,rfl,Pa,aZ,hy,aA⟩:=JF;have jV:y.scheme=sch.data.toList:=by rw[hy]
     have hyo:y.opq=opq:=by rw[hy]
     obtain⟨acd,ZQ,aac,xhh,aal,Zy,aaE,xpv,xxs,VP,TN,aaV,ZE⟩:=x;have huq:u.hasQuery=VP:=by rw[<-hx];rfl
     have huf:u.hasFragment=TN:=by rw[<-hx];rfl
     rw[jV,hyo]at hU;have HU:=Ih hU;have Huq:=Ih huq;have Huf:=Ih huf
     have oT:Hid (∀(w1:World),Below w.heap.size w w1->Below B w w1/\B<=w1.heap.size/\dQ w1/\w1.heap[p]? =some (.cells #[.string sch,.string usr,.string pas,.bool hh,.string hst,.int .i64 prt,.bool opq,.slice a2 xs.length c,.bool bQ,.bool ee,.string qry,.string frg] 32 fr)/\nT B M w1 ⟨acd,ZQ,aac,xhh,aal,Zy,aaE,xpv,xxs,VP,TN,aaV,ZE⟩ false ⟨#[]⟩):=
      Ih (fun w1 hb=>⟨hb.mono hB,Nat.le_trans hB hb.size,HE.out.below hb,(hb.block p (Nat.lt_of_lt_of_le Pa hB)).trans aZ,hm.below hb⟩)
     have fA:Hid (∀w2,Below B w w2->iJ B w2 (.pointer (some ⟨p,0,none⟩)) (some y)):=Ih (fun w2 hb=>iJ.at (b:=some y) ⟨p,fr,sch,usr,pas,hh,hst,prt,opq,a2,c,xs,bQ,ee,qry,frg,rfl,Pa,aZ,hy,aA⟩ hb);have Ts:Hid (lu B w (.agg #[.string sch,.string usr,.string pas,.bool hh,.string hst,.int .i64 prt,.bool opq,.slice a2 xs.length c,.bool bQ,.bool ee,.string qry,.string frg]) y):=Ih (by rw[hy];exact sA hB aA);clear hU jV hyo huq huf aZ hm hy aA;have xZ:Hid (({u with scheme:=sch.data.toList}:Lz.ag)=({sch:=sch,usr:=ZQ,pas:=aac,hh:=xhh,hst:=aal,prt:=Zy,opq:=aaE,pv:=xpv,xs:=xxs,hq:=VP,hf:=TN,qry:=aaV,frg:=ZE}:MkV).url):=Ih (by rw[<-hx];rfl);clear hx;cases opq with
     | false=>
       have EW:Hid (goal=if sch.data.toList=Lz.bM then Lz.em {u with scheme:=sch.data.toList} (some y) s.data.toList else Lz.mj {u with scheme:=sch.data.toList} y s.data.toList):=Ih HU.out;go_enter Tryz.func26,Tryz.ntmps26
       go_wp2_with fail
       refine CS.out.mono ?_;rintro e w1 ⟨a,r,rfl,ha,hr,ar⟩;obtain⟨CE,nQ,qX,mN,jT⟩:=oT.out w1 ar;have d6:=rowAt mN 6 (.bool false) rfl;have d0:=rowAt mN 0 (.string sch) rfl;have hrs:r.size<=s.size:=by rw[<-aa r,hr.out,aa];exact Nat.le_refl _
       have cA:=Ih (G3 B M _ false ⟨#[]⟩ sch w1 jT);have Hr:Hid (r.data.toList=s.data.toList):=Ih hr.out;clear ha hr jT HU
       go_wp2_with fail
       refine cA.out.mono ?_;rintro e w2 ⟨rfl,az,jy⟩;have bI:=CE.trans az;have jU:B<=w2.heap.size:=Nat.le_trans hB bI.size;have mP:=HE.out.at bI kg;have Cw:dS B M w2 {u with scheme:=sch.data.toList}:=⟨_,jy,Ih xZ.out.symm⟩;have mM:w2.heap[p]? =_:=(az.block p Pa).trans mN;have e6:=rowAt mM 6 (.bool false) rfl;by_cases hf:sch.data.toList=Lz.bM
       ·have g0:=bg (k:=[102,105,108,101]) hf;have HG:Hid (goal=Lz.em {u with scheme:=sch.data.toList} (some y) r.data.toList):=by show _=_;rw[EW.out,if_pos hf,Hr.out]
        have cF:=Ih (xO B M {u with scheme:=sch.data.toList} (some y) _ r (by omega) w2 mP Cw jU kg (fA.out w2 bI) (fun z hz=>by have:=hL z hz;omega) (by show u.path.length<=_;omega) hf);clear EW hf jy
        go_wp2_with fail
        refine cF.out.mono ?_;rintro e w3 ⟨v,rfl,aO,bA⟩
        go_wp2_with fail
        go_ret;refine⟨_,rfl,bI.trans aO,?_⟩;rw[HG.out];exact bA
       ·have g0:=bN (k:=[102,105,108,101]) hf;have HG:Hid (goal=Lz.mj {u with scheme:=sch.data.toList} y r.data.toList):=by show _=_;rw[EW.out,if_neg hf,Hr.out]
        have cR:=Ih (Dl B M {u with scheme:=sch.data.toList} y _ r (by omega) w2 mP Cw jU kg (Ts.out.at bI) (by omega) (by show u.path.length<=_;omega));clear EW hf jy
        go_wp2_with (refine wpList_load_row rfl 32 (.tmp 96) rfl p rfl 32 _ fr _ mM Tryz.underlying32 rfl bY ?_)
        refine cR.out.mono ?_;rintro e w3 ⟨v,rfl,aO,bA⟩
        go_wp2_with fail
        go_ret;refine⟨_,rfl,bI.trans aO,?_⟩;rw[HG.out];exact bA
     | true=>
       by_cases fq:s.data.toList=[]/\VP=false/\TN=true
       ·obtain⟨he,rfl,rfl⟩:=fq;have g0:=bg he;have Fv:s.toList.isEmpty=true:=aq (by rw[<-aa,he];rfl);have HG:Hid (goal=.ok (Lz.ek {u with scheme:=sch.data.toList,opq:=true} y (⟨#[]⟩:ByteArray).data.toList)):=by show _=_;rw[HU.out,if_neg (by rw[he,Huq.out,Huf.out];simp),if_pos rfl]
        clear he;go_enter Tryz.func26,Tryz.ntmps26
        go_wp2_with fail
        refine CS.out.mono ?_;rintro e w1 ⟨a,r,rfl,ha,hr,ar⟩;obtain⟨CE,nQ,qX,mN,jT⟩:=oT.out w1 ar;have d6:=rowAt mN 6 (.bool true) rfl;have d0:=rowAt mN 0 (.string sch) rfl;have m8:=rowAt jT.row 8 (.bool false) rfl;have m9:=rowAt jT.row 9 (.bool true) rfl;have cA:=Ih (G3 B M _ false ⟨#[]⟩ sch w1 jT);clear ha hr jT HU
        go_wp2_with fail
        refine cA.out.mono ?_;rintro e w2 ⟨rfl,az,jy⟩;have bI:=CE.trans az;have jU:B<=w2.heap.size:=Nat.le_trans hB bI.size;have Cw:dS B M w2 {u with scheme:=sch.data.toList}:=⟨_,jy,Ih xZ.out.symm⟩;have mM:w2.heap[p]? =_:=(az.block p Pa).trans mN;have e6:=rowAt mM 6 (.bool true) rfl;obtain⟨v6,c6,f6⟩:=gY Cw 6 (by decide);obtain⟨aO,lh⟩:=Nh Cw bI true;have vq:Below B w2 (w2.setCell ⟨M,6,none⟩ (.bool true)):=(Below.refl B w2).setCell (p:=⟨M,6,none⟩) jy.le _;have Jv:(w2.setCell ⟨M,6,none⟩ (.bool true)).heap[p]? =_:=(vq.block p Pa).trans mM;have cP:=Ih (sG B M _ y _ ⟨#[]⟩ _ (HE.out.at aO kg) lh (Nat.le_trans hB aO.size) kg (Ts.out.at aO).now (by show y.path.length+0<=_;omega));clear jy lh Cw
        go_wp2_with (refine wpList_load_row rfl 32 (.tmp 81) rfl p rfl 32 _ fr _ Jv Tryz.underlying32 rfl bY ?_)
        refine cP.out.mono ?_;rintro e w4 ⟨rfl,dy,E7⟩
        go_wp2_with fail
        go_ret;refine⟨_,rfl,aO.trans dy,?_⟩;rw[HG.out];exact⟨rfl,E7⟩
       ·have JG:(!s.data.toList.isEmpty||VP|| !TN)=true:=by
         cases hl:s.data.toList with
         | cons c r=>rfl
         | nil=>
           cases VP with
           | true=>rfl
           | false=>
             cases TN with
             | false=>rfl
             | true=>exact absurd ⟨hl,rfl,rfl⟩ fq
        have HG:Hid (goal=.er 82):=by show _=_;rw[HU.out,if_pos (by rw[Bool.true_and,Huq.out,Huf.out];exact JG)]
        by_cases he:s.data.toList=[]
        ·have g0:=bg he;have Fv:s.toList.isEmpty=true:=aq (by rw[<-aa,he];rfl);cases VP with
         | true=>
           clear he fq JG HU;go_enter Tryz.func26,Tryz.ntmps26
           go_wp2_with fail
           refine CS.out.mono ?_;rintro e w1 ⟨a,r,rfl,ha,hr,ar⟩;obtain⟨CE,nQ,qX,mN,jT⟩:=oT.out w1 ar;have d6:=rowAt mN 6 (.bool true) rfl;have m8:=rowAt jT.row 8 (.bool true) rfl
           go_wp2_with fail
           go_ret;refine⟨_,rfl,CE,?_⟩;rw[HG.out];exact⟨_,rfl⟩
         | false=>
           have O2:TN=false:=by
            cases TN with
            | false=>rfl
            | true=>exact absurd ⟨he,rfl,rfl⟩ fq
           subst O2;clear he fq JG HU;go_enter Tryz.func26,Tryz.ntmps26
           go_wp2_with fail
           refine CS.out.mono ?_;rintro e w1 ⟨a,r,rfl,ha,hr,ar⟩;obtain⟨CE,nQ,qX,mN,jT⟩:=oT.out w1 ar;have d6:=rowAt mN 6 (.bool true) rfl;have m8:=rowAt jT.row 8 (.bool false) rfl;have m9:=rowAt jT.row 9 (.bool false) rfl
           go_wp2_with fail
           go_ret;refine⟨_,rfl,CE,?_⟩;rw[HG.out];exact⟨_,rfl⟩
        ·have g0:=bN he;have Fv:s.toList.isEmpty=false:=an (by rw[<-aa];exact List.length_pos_iff.2 he);clear he fq JG HU;go_enter Tryz.func26,Tryz.ntmps26
         go_wp2_with fail
         refine CS.out.mono ?_;rintro e w1 ⟨a,r,rfl,ha,hr,ar⟩;obtain⟨CE,nQ,qX,mN,jT⟩:=oT.out w1 ar;have d6:=rowAt mN 6 (.bool true) rfl
         go_wp2_with fail
         go_ret;refine⟨_,rfl,CE,?_⟩;rw[HG.out];exact⟨_,rfl⟩
end Go.Proofs.YtecoeebjaleeiaaGreatDoor
