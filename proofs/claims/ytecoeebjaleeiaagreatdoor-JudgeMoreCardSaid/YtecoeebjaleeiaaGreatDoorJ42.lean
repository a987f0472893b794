/-
  judge.Fails. Conditions: as for judge.allowed; a policy that is not great.
-/
import Derived.Test.YtecoeebjaleeiaaGreatDoorJ41
set_option maxHeartbeats 4000000
set_option maxRecDepth 100000
namespace Go.Proofs.YtecoeebjaleeiaaGreatDoor
open Go.RowKit
attribute [local go_sem ↓] Go.wp_at_zero Go.wp_at_succ
def Ik (k:Int):Prop:= -9223372036854775808<=k/\k<=9223372036854775807
def ou (w:World):Prop:=
 ∃bm es clock,w.cell? ⟨0,0,none⟩=some (.map (some bm))/\bm<w.heap.size/\w.heap[bm]? =some (.map es clock)/\
  ∀(k:Int) (W:World),Ik k->W.heap[bm]? =some (.map es clock)->(Instr.lookup 89 (.map (some bm)) (.int .i64 k) true).run Tryz.prog W=.ok (.tuple #[.int .i64 (Lz.fR k),.bool (Lz.fR k != 0)]) W
theorem ou.below {w w':World} (h:ou w) (hb:Below w.heap.size w w') (hz:15<=w.heap.size):ou w':=by
 obtain⟨bm,es,clock,h1,h2,h3,h4⟩:=h;refine⟨bm,es,clock,?_,Nat.lt_of_lt_of_le h2 hb.size,by rw[hb.block _ h2];exact h3,h4⟩;rw[hb.cell (p:=⟨0,0,none⟩) (Nat.lt_of_lt_of_le (by decide) hz)];exact h1
structure mG (bi:List UInt32) (aY:List UInt64) (w:World):Prop where
 a:C3 bi aY w
 e:xL w
 i:ou w
theorem mG.below {bi:List UInt32} {aY:List UInt64} {w w':World} (h:mG bi aY w) (hb:Below w.heap.size w w'):mG bi aY w':=⟨h.a.below hb,h.e.below hb,h.i.below hb h.a.m.s.size⟩
theorem DG (bi:List UInt32) (aY:List UInt64) (d:aD) (x:bh) (ov:Value) (own:Lz.ag) (w:World) (hE:mG bi aY w) (h:eN w d.v d.vals) (oW:Ik x.kind) (ht:x.text.size<=1000000) (hs:x.integ.size<=100000) (ho:aX w ov own) (hO:UOk own):Calls Tryz.prog 18 #[d.val,x.val,ov] w (aC (Lz.fL (Lz.gK (fC bi aY)) Lz.aG d.vals x.src own) w):=by
 obtain⟨gG,jQ,jm,eA,dN,jw,jP,a2,n2,c2,bQ,ee,jN,jF,rfl,_,_,_,_,_,je⟩:=ho.letters;obtain⟨hJ,aS⟩:=tz w #[.string d.name,d.v] 51 x #[.string gG,.string jQ,.string jm,.bool eA,.string dN,.int .i64 jw,.bool jP,.slice a2 n2 c2,.bool bQ,.bool ee,.string jN,.string jF];obtain⟨W,hW⟩:∃W,W=((w.alloc (.cells #[.string d.name,d.v] 51)).alloc (.cells x.row 27)).alloc (.cells #[.string gG,.string jQ,.string jm,.bool eA,.string dN,.int .i64 jw,.bool jP,.slice a2 n2 c2,.bool bQ,.bool ee,.string jN,.string jF] 32):=⟨_,rfl⟩;rw[<-hW]at hJ aS;have qj:=hE.below aS;obtain⟨bm,es,clock,i1,i2,i3,i4⟩:=qj.i;have i5:=i4 x.kind W oW i3;have cF:=Ih (C0 d x (.agg #[.string gG,.string jQ,.string jm,.bool eA,.string dN,.int .i64 jw,.bool jP,.slice a2 n2 c2,.bool bQ,.bool ee,.string jN,.string jF]) own W qj.a.m (h.below aS) hs (je.below aS) hO);have cI:=Ih (Em bi aY (Lz.fR x.kind) d.v d.vals x.nonce x.text ht W qj.a (h.below aS));obtain⟨R,hR⟩:∃R,R=Lz.fL (Lz.gK (fC bi aY)) Lz.aG d.vals x.src own:=⟨_,rfl⟩;rw[<-hR];unfold Lz.fL at hR
 rw[show x.src.kind=x.kind from rfl,show x.src.nonce=x.nonce.data.toList from rfl,show x.src.text=x.text.data.toList from rfl]at hR;generalize Lz.me Lz.aG d.vals x.src own=qf at cF hR;generalize Lz.gv (Lz.gK (fC bi aY)) (Lz.fR x.kind) d.vals x.nonce.data.toList x.text.data.toList=qi at cI hR;generalize Lz.fR x.kind=kk at *;have HR:=Ih hR;have HW:=Ih hW;obtain⟨k0,k1,k2,k3,k4,k5,k6⟩:=bn hJ.x;have Tp:=rowAt hJ.d 0 _ rfl;have TY:=rowAt hJ.d 1 _ rfl;obtain⟨y0,y1,y2,y3,y4,y5,y6,y7,y8,y9,qU,qR⟩:=dW hJ.u;obtain⟨da,dc,ys,Lp,yB,iB⟩:=h.at';obtain⟨dn,dv,dl⟩:=d;obtain⟨xk,xn,xa,xu,xt,xc,xi⟩:=x
 dsimp only at Lp
 subst Lp
 dsimp only[aD.val,bh.val,bh.row]at *
 clear oW hR hW hE qj h ho je hJ yB iB i4 i2 i3 hO ht hs;by_cases h0:kk=0
 ·have b0:(kk != 0)=false:=by rw[h0];rfl
  have HF:Hid (R=qf):=by show _=_;rw[HR.out,if_pos h0]
  rw[b0]at i5;clear h0 HR cI b0;go_enter Tryz.func18,Tryz.ntmps18
  go_upto_region 1 with fail
  rw[<-HW.out]
  go_wp2_with fail
  refine cF.out.mono ?_;rintro e w1 ⟨rfl,ar⟩
  go_wp2_with fail
  go_ret;exact⟨by rw[HF.out];rfl,ac aS ar⟩
 ·have b0:(kk != 0)=true:=bne_iff_ne.2 h0;have HF:Hid (R=qi):=by show _=_;rw[HR.out,if_neg h0]
  rw[b0]at i5;clear h0 HR cF b0;go_enter Tryz.func18,Tryz.ntmps18
  go_upto_region 1 with fail
  rw[<-HW.out]
  go_wp2_with fail
  refine cI.out.mono ?_;rintro e w1 ⟨rfl,ar⟩
  go_wp2_with fail
  go_ret;exact⟨by rw[HF.out];rfl,ac aS ar⟩
attribute [local go_sem ↓] Go.wp_at_zero Go.wp_at_succ
theorem K7 {l:List Lz.il} {k:Int} {d:Lz.il} (h:Lz.fZ l k=some d):d∈l:=by
 unfold Lz.fZ at h;split at h
 ·rw[Option.bind_eq_some_iff]at h;obtain⟨n,_,h⟩:=h;exact List.mem_of_find?_eq_some h
 ·cases h
def BD (o:Option (List UInt8)) (w:World) (e:Ending) (w':World):Prop:=∃s:ByteArray,e=.returned (.tuple #[.string s,.bool o.isSome])/\Hid (s.data.toList=o.getD [])/\Below w.heap.size w w'
theorem sR (bi:List UInt32) (aY:List UInt64) (p:aE) (x:bh) (ov:Value) (own:Lz.ag) (w:World) (hE:mG bi aY w) (h:dx w p.v p.ds) (hS:dO (p.ds.map aD.src)) (oW:Ik x.kind) (ht:x.text.size<=1000000) (hs:x.integ.size<=100000) (ho:aX w ov own) (hO:UOk own):Calls Tryz.prog 11 #[p.val,x.val,ov] w (BD (Lz.dH (Lz.gK (fC bi aY)) Lz.aG (p.ds.map aD.src) x.src own) w):=by
 obtain⟨gG,jQ,jm,eA,dN,jw,jP,a2,n2,c2,bQ,ee,jN,jF,rfl,_,_,_,_,_,je⟩:=ho.letters;obtain⟨hJ,aS⟩:=tz w #[p.v,.bool p.rep] 25 x #[.string gG,.string jQ,.string jm,.bool eA,.string dN,.int .i64 jw,.bool jP,.slice a2 n2 c2,.bool bQ,.bool ee,.string jN,.string jF];obtain⟨W,hW⟩:∃W,W=((w.alloc (.cells #[p.v,.bool p.rep] 25)).alloc (.cells x.row 27)).alloc (.cells #[.string gG,.string jQ,.string jm,.bool eA,.string dN,.int .i64 jw,.bool jP,.slice a2 n2 c2,.bool bQ,.bool ee,.string jN,.string jF] 32):=⟨_,rfl⟩;rw[<-hW]at hJ aS;have cF:=Ih (Kc p x.kind W (h.below aS) hS (hE.below aS).e);have cR:Hid (∀V,Below W.heap.size W V->Calls Tryz.prog 19 #[p.val] V (aC (Lz.eC (p.ds.map aD.src)) V)):=Ih (fun V hV=>RF p V ((h.below aS).below hV) hS)
 have cA:Hid (∀(d:aD) V,Below W.heap.size W V->eN V d.v d.vals->Calls Tryz.prog 18 #[d.val,x.val,.agg #[.string gG,.string jQ,.string jm,.bool eA,.string dN,.int .i64 jw,.bool jP,.slice a2 n2 c2,.bool bQ,.bool ee,.string jN,.string jF]] V (aC (Lz.fL (Lz.gK (fC bi aY)) Lz.aG d.vals x.src own) V)):=Ih (fun d V hV hd=>DG bi aY d x _ own V ((hE.below aS).below hV) hd oW ht hs ((je.below aS).below hV) hO);have HJ:Hid (∀V,Below W.heap.size W V->wg V w.heap.size #[p.v,.bool p.rep] 25 x #[.string gG,.string jQ,.string jm,.bool eA,.string dN,.int .i64 jw,.bool jP,.slice a2 n2 c2,.bool bQ,.bool ee,.string jN,.string jF]):=Ih (fun V hV=>hJ.below hV);have HS:=Ih (fun d (hd:Lz.fZ (p.ds.map aD.src) x.kind=some d)=>hS.2 d (K7 hd));obtain⟨R,hR⟩:∃R,R=Lz.dH (Lz.gK (fC bi aY)) Lz.aG (p.ds.map aD.src) x.src own:=⟨_,rfl⟩;rw[<-hR];unfold Lz.dH at hR;rw[show x.src.kind=x.kind from rfl]at hR;generalize Lz.fZ (p.ds.map aD.src) x.kind=o at cF hR HS;generalize Lz.eC (p.ds.map aD.src)=qr at cR hR;have HR:=Ih hR;have HW:=Ih hW;obtain⟨k0,k1,k2,k3,k4,k5,k6⟩:=bn hJ.x
 have Tp:=rowAt hJ.d 0 _ rfl;have TY:=rowAt hJ.d 1 _ rfl;obtain⟨da,dc,Lp,iB⟩:=h;obtain⟨pv,ps,rep⟩:=p;obtain⟨xk,xn,xa,xu,xt,xc,xi⟩:=x
 dsimp only at Lp
 subst Lp
 dsimp only[aE.val,aD.val,bh.val,bh.row]at *
 clear oW hR hW hE ho je hJ iB hO ht hs hS;go_enter Tryz.func11,Tryz.ntmps11
 go_upto_region 1 with fail
 rw[<-HW.out]
 go_wp2_with fail
 refine cF.out.mono ?_;rintro e w1 ⟨v,rfl,hv,ar⟩;obtain⟨nm,pa,pn,pc,B,us,rfl,au,LR,LV⟩:=hv.form
 go_upto_region 2 with fail
 obtain⟨W1,nD⟩:∃W1,W1=w1.alloc (.cells #[.string nm,.slice pa pn pc] 51):=⟨_,rfl⟩;rw[<-nD];have e1:Below w1.heap.size w1 W1:=by rw[nD];exact(Below.refl _ w1).alloc (Nat.le_refl _) _
 have r1:W1.heap[w1.heap.size]? =some (.cells #[.string nm,.slice pa pn pc] 51 (0,0)):=by rw[nD];exact ah _ _
 have iV:Below W.heap.size W W1:=ac ar e1;have dA:=au.below e1;have HN:Hid (∀V,Below W1.heap.size W1 V->V.heap[w1.heap.size]? =some (.cells #[.string nm,.slice pa pn pc] 51 (0,0))):=Ih (fun V hV=>(hV.block _ (af r1)).trans r1);have HO:=Ih (⟨LR.out,LV.out⟩:_/\_);have Sy:=HJ.out W1 iV;clear k0 k1 k2 k3 k4 k5 k6 Tp TY hv au nD e1 ar LR LV cF;have p0:=rowAt r1 0 _ rfl;have p1:=rowAt r1 1 _ rfl;obtain⟨k0,k1,k2,k3,k4,k5,k6⟩:=bn Sy.x;obtain⟨y0,y1,y2,y3,y4,y5,y6,y7,y8,y9,qU,qR⟩:=dW Sy.u
 dsimp only[bh.row]at k0 k1 k2 k3 k4 k5 k6
 obtain⟨z,hz⟩:∃z,z=(match o with|some d=> !Lz.fL (Lz.gK (fC bi aY)) Lz.aG d.vals (bh.src ⟨xk,xn,xa,xu,xt,xc,xi⟩) own|none=>false):=⟨_,rfl⟩;have HZ:=Ih hz
 have HF:Hid (R=if z=true then o.map (·.name)else if(xk==4&&qr)=true then some Lz.jq else none):=by
  show _=_;rw[HR.out,hz];cases o with
  | none=>rfl
  | some d=>
    dsimp only
    rcases Bool.eq_false_or_eq_true (Lz.fL (Lz.gK (fC bi aY)) Lz.aG d.vals (bh.src ⟨xk,xn,xa,xu,xt,xc,xi⟩) own)with hA|hA<;>simp[hA]
 clear hz HR
 go_cut [24] (fun s wx=>s=.bool z/\Below W1.heap.size W1 wx)
 case first=>
  cases o with
  | none=>
    have hp:(none:Option Lz.il).isSome=false:=rfl;have PN:Hid (z=false):=HZ;clear HZ HO HS
    go_wp2_with fail
    go_meet;exact⟨by rw[PN.out],Below.refl _ _⟩
  | some d=>
    have hp:(some d:Option Lz.il).isSome=true:=rfl;obtain⟨n1,n2⟩:=HO.out.1 d rfl;have AJ:=HS.out d rfl;have hd:eN W1 (.slice pa pn pc) d.vals:=⟨dA.path n2,by have:=AJ.2.1;omega,fun y hy=>by have:=AJ.2.2 y hy;omega⟩;have Sk:=Ih (cA.out ⟨nm,.slice pa pn pc,d.vals⟩ W1 iV hd);have PN:Hid (z= !Lz.fL (Lz.gK (fC bi aY)) Lz.aG d.vals (bh.src ⟨xk,xn,xa,xu,xt,xc,xi⟩) own):=HZ;generalize Lz.fL (Lz.gK (fC bi aY)) Lz.aG d.vals (bh.src ⟨xk,xn,xa,xu,xt,xc,xi⟩) own=qa at Sk PN
    dsimp only[aD.val]at Sk
    clear HZ HO HS AJ hd n1 n2 cA
    go_wp2_with fail
    refine Sk.out.mono ?_;rintro e w2 ⟨rfl,az⟩
    go_wp2_with fail
    go_meet;exact⟨by rw[PN.out],az⟩
 case rest=>
 obtain⟨rfl,az⟩:=hcut;clear k0 k1 k2 k3 k4 k5 k6 y0 y1 y2 y3 y4 y5 y6 y7 y8 y9 qU qR p0 p1 cA HS;have q0:=rowAt (HN.out wc az) 0 _ rfl;cases z with
 | true=>
   have HG:Hid (nm.data.toList=R.getD []/\R.isSome=true):=by
    show _/\_;rw[HF.out,if_pos rfl];cases o with
    | none=>cases HZ.out
    | some d=>exact⟨(HO.out.1 d rfl).1,rfl⟩
   clear HZ HO HF
   go_wp2_with fail
   go_ret2
   exact⟨nm,by rw[HG.out.2];rfl,Ih HG.out.1,ac aS (ac iV az)⟩
 | false=>
   have hJ2:=HJ.out wc (ac iV az);have k0:=(bn hJ2.x).1;have Tp:=rowAt hJ2.d 0 _ rfl;have TY:=rowAt hJ2.d 1 _ rfl
   dsimp only at k0 Tp TY
   have XH:Hid (R=if(xk==4&&qr)=true then some Lz.jq else none):=HF;clear HZ HO HF q0 hJ2;cases dy:(xk==4)with
   | false=>
     have HG:Hid (R=none):=by show _=_;rw[XH.out,dy];rfl
     clear XH
     go_wp2_with fail
     go_ret2
     exact⟨⟨#[]⟩,by rw[HG.out];rfl,Ih (by rw[HG.out];rfl),ac aS (ac iV az)⟩
   | true=>
     have cR2:=Ih (cR.out wc (ac iV az));cases qr with
     | true=>
       have HG:Hid (R=some Lz.jq):=by show _=_;rw[XH.out,dy];rfl
       clear XH cR
       go_wp2_with fail
       refine cR2.out.mono ?_;rintro e w3 ⟨rfl,aO⟩
       go_wp2_with fail
       go_ret2
       exact⟨_,by rw[HG.out];rfl,Ih (by rw[HG.out];rfl),ac aS (ac iV (ac az aO))⟩
     | false=>
       have HG:Hid (R=none):=by show _=_;rw[XH.out,dy];rfl
       clear XH cR
       go_wp2_with fail
       refine cR2.out.mono ?_;rintro e w3 ⟨rfl,aO⟩
       go_wp2_with fail
       go_ret2
       exact⟨⟨#[]⟩,by rw[HG.out];rfl,Ih (by rw[HG.out];rfl),ac aS (ac iV (ac az aO))⟩
end Go.Proofs.YtecoeebjaleeiaaGreatDoor
