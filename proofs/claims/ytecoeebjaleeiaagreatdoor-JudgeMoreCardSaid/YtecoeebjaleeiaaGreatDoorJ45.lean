/-
  lazaretlaw31.marks: the chapter's policies.
-/
import Derived.Test.YtecoeebjaleeiaaGreatDoorJ38
import Derived.Test.YtecoeebjaleeiaaGreatDoorJ44
set_option maxHeartbeats 4000000
set_option maxRecDepth 100000
namespace Go.Proofs.YtecoeebjaleeiaaGreatDoor
open Go.RowKit
attribute [local go_sem ↓] Go.wp_at_zero Go.wp_at_succ
def YX:List UInt8:=[104,116,116,112,115,58,47,47,97,46,98,47]
def abi:Lz.UR->Bool
 | .ok _=>true
 | .er _=>false
theorem Vo:abi (Lz.dg YX none)=true:=by decide +kernel
theorem ns (s:ByteArray) (hs:s.data.toList=YX) (w:World) (hE:ot w):Calls Tryz.prog 8 #[.string s,.pointer none] w fun e w'=>∃(v:Value) (u:Lz.ag),e=.returned (.tuple #[v,.int .i64 0])/\Below w.heap.size w w'/\aX w' v u/\Hid (UOk u):=by
 refine(tN s w hE).mono ?_;rintro e w' ⟨v,n,u,q,he,hb,hu,hn,hz⟩;cases q with
 | true=>
   obtain rfl:n=0:=by simpa using hn
   exact⟨v,u,he,hb,hu,Ih (hz.out.1 rfl).2⟩
 | false=>
   exfalso
   obtain⟨k,hk⟩:=hz.out.2 rfl;have:=Vo;rw[<-hs,hk]at this;cases this
theorem Nz {w:World} {B:Nat} {p q:aE} {fr:Nat×Nat} (h:w.heap[B]? =some (.cells #[p.v,.bool p.rep,q.v,.bool q.rep] 25 fr)) (hp:dx w p.v p.ds) (hq:dx w q.v q.ds):eW w (.slice (some ⟨B,0,none⟩) 2 2) [p,q]:=by
 refine⟨_,2,rfl,fun j x hj=>⟨B,0,rfl,?_⟩⟩;have c:∀k u,(#[p.v,.bool p.rep,q.v,.bool q.rep]:Array Value)[k]? =some u->w.cell? ⟨B,k,none⟩=some u:=fun k u hk=>by simp only[World.cell?,h];exact hk
 match j,hj with
 | 0,hj=>
   obtain rfl:p=x:=by simpa using hj
   exact⟨c 0 _ rfl,c 1 _ rfl,hp⟩
 | 1,hj=>
   obtain rfl:q=x:=by simpa using hj
   exact⟨c 2 _ rfl,c 3 _ rfl,hq⟩
 | j+2,hj=>simp at hj
theorem Bw:dO Lz.iM:=by
 refine⟨by decide,?_⟩;intro d hd;obtain rfl:d=⟨Lz.dK,[Lz.rW,Lz.kB]⟩:=by simpa [Lz.iM]using hd
 refine⟨by decide,by decide,?_⟩;intro x hx;rcases List.mem_cons.1 hx with rfl|hx
 ·decide
 ·rcases List.mem_cons.1 hx with rfl|hx
  ·decide
  ·cases hx
theorem KJ:dO Lz.xf:=by
 refine⟨by decide,?_⟩;intro d hd;obtain rfl:d=⟨Lz.G5,[Lz.uw]⟩:=by simpa [Lz.xf]using hd
 refine⟨by decide,by decide,?_⟩;intro x hx;rcases List.mem_cons.1 hx with rfl|hx
 ·decide
 ·cases hx
theorem B2 (s:ByteArray) (hs:s.size<=90000) (l:List Lz.il) (hl:Lz.BM s.data.toList=l) (w:World) (hE:Env w):Calls Tryz.prog 12 #[.string s] w fun e w'=>∃(a:Option Addr) (n c:Nat) (ds:List aD),e=.returned (.slice a n c)/\Hid (ds.map aD.src=l)/\dx w' (.slice a n c) ds/\Below w.heap.size w w':=by
 refine(Rj s hs w hE).mono ?_;rintro e w' ⟨v,B,ds,rfl,h1,h2,h3,hb⟩;have h4:=h2.at (fun d hd=>(h3.out d hd).1);obtain⟨a,c,rfl,_⟩:=id h4;exact⟨a,_,c,ds,rfl,Ih (h1.out.trans hl),h4,hb⟩
def Tj (x:bh) (place m:Int) (D:List UInt8) (L:List Lz.uT) (w:World) (e:Ending) (w':World):Prop:=∃(dr:ByteArray) (a:Option Addr) (c:Nat) (vs:List bJ),e=.returned (.tuple #[.agg #[.int .i64 x.kind,.int .i64 x.node,.string x.attr,.string x.url,.string x.text,.string x.nonce,.string x.integ,.int .i64 m,.string dr],.slice a vs.length c])/\Hid (dr=⟨D.toArray⟩)/\Hid (vs.map bJ.src=L.map (sF place))/\j8 w' (.slice a vs.length c) vs/\Below w.heap.size w w'
theorem aba (bi:List UInt32) (aY:List UInt64) (lv:Value) (ps:List aE) (x:bh) (ov:Value) (own:Lz.ag) (place:Int) (L:List Lz.uT) (m:Int) (D:List UInt8) (w:World) (hE:mG bi aY w) (h:eW w lv ps) (kN:ps.map aE.src=Lz.xU) (oW:Ik x.kind) (ht:x.text.size<=1000000) (hs:x.integ.size<=100000) (ho:aX w ov own) (hO:UOk own)
  (hL:Lz.AR (Lz.gK (fC bi aY)) Lz.aG own x.src=L) (hm:Lz.dj L=(m,D)):Calls Tryz.prog 9 #[lv,x.val,ov,.int .i64 place] w (Tj x place m D L w):=by
 have ba:ps.length<=100:=by
  have:=congrArg List.length kN;rw[List.length_map]at this;rw[this];decide
 have hS:∀p∈ps,dO (p.ds.map aD.src):=fun p hp=>by
  have:p.src∈Lz.xU:=by rw[<-kN];exact List.mem_map_of_mem hp
  rcases List.mem_cons.1 this with e|e
  ·rw[show p.ds.map aD.src=p.src.list from rfl,e];exact Bw
  ·rw[show p.ds.map aD.src=p.src.list from rfl,List.mem_singleton.1 e];exact KJ
 refine(B7 bi aY lv ps x ov own place w hE h hS ba oW ht hs ho hO).mono ?_;rintro e w' ⟨mk,dr,ov',B,vs,rfl,h1,h2,h3,hb⟩;have e0:Lz.bt (fun p=>Lz.dH (Lz.gK (fC bi aY)) Lz.aG p.list x.src own) 0 (ps.map aE.src)=L:=by rw[kN];exact hL
 rw[e0]at h1 h2;obtain⟨rfl,h4⟩:=Prod.mk.inj (h1.out.trans hm);have h3':=h3.at;obtain⟨a,c,rfl,_⟩:=id h3';exact⟨dr,a,c,vs,rfl,Ih (by rw[<-h4]),h2,h3',hb⟩
theorem RA (w:World) (y:bJ):j8 (w.alloc (.cells y.row.toArray 46)) (.slice (some ⟨w.heap.size,0,none⟩) 1 1) [y]:=by
 refine⟨_,1,rfl,fun j x hj=>⟨w.heap.size,0,rfl,fun k u hk=>?_⟩⟩
 match j,hj with
 | 0,hj=>
   obtain rfl:y=x:=by simpa using hj
   rw[show 0+0*4+k=k by omega];exact rowAt (ah w _) k u (by rw[List.getElem?_toArray];exact hk)
 | j+1,hj=>simp at hj
theorem CZ (ys:List bJ) (y:bJ) (w:World) {a:Option Addr} {c:Nat} (h:j8 w (.slice a ys.length c) ys) (hy:ys.map bJ.src=[y.src]):Calls Tryz.prog 10 #[.slice a ys.length c,.slice (some ⟨w.heap.size,0,none⟩) 1 1] (w.alloc (.cells y.row.toArray 46)) (aC true (w.alloc (.cells y.row.toArray 46))):=by
 have hl:ys.length=1:=by
  have:=congrArg List.length hy
  rwa [List.length_map]at this
 have:=kY _ _ ys [y] _ (h.below ((Below.refl _ w).alloc (Nat.le_refl _) (.cells y.row.toArray 46))) (RA w y) (by omega)
 rwa [show Li ys [y]=true from decide_eq_true hy]at this
theorem oA (bi:List UInt32) (aY:List UInt64) (w:World) (hE:mG bi aY w):Calls Tryz.prog 7 #[] w (aC true w):=by
 have cP:=Ih (ns ⟨#[104,116,116,112,115,58,47,47,97,46,98,47]⟩ rfl w hE.a.m.u);have HE:=Ih hE;clear hE;go_enter Tryz.func7,Tryz.ntmps7
 go_wp2_with fail
 refine cP.out.mono ?_;rintro e w1 ⟨v1,u1,rfl,ar,jR,hO⟩;obtain⟨bo,cw,ck,cv,aU,cf,cq,a1,n1,c1,bO,bU,cz,de,rfl,_,_,_,_,_,jR⟩:=jR.letters
 go_upto_region 2 with fail
 obtain⟨W1,nD⟩:∃W1,W1=w1.alloc (.cells #[.string bo,.string cw,.string ck,.bool cv,.string aU,.int .i64 cf,.bool cq,.slice a1 n1 c1,.bool bO,.bool bU,.string cz,.string de] 32):=⟨_,rfl⟩;rw[<-nD];have e1:Below w1.heap.size w1 W1:=by rw[nD];exact(Below.refl _ w1).alloc (Nat.le_refl _) _
 have r1:W1.heap[w1.heap.size]? =some (.cells #[.string bo,.string cw,.string ck,.bool cv,.string aU,.int .i64 cf,.bool cq,.slice a1 n1 c1,.bool bO,.bool bU,.string cz,.string de] 32 (0,0)):=by rw[nD];exact ah _ _
 have qN:=jR.below e1;have iV:Below w.heap.size w W1:=ac ar e1;have cO:=Ih (B2 ⟨Lz.Jb.toArray⟩ (by decide) Lz.iM Lz.FN W1 (HE.out.below iV).a.m.s);clear nD jR ar e1 cP
 go_wp2_with fail
 refine cO.out.mono ?_;rintro e w2 ⟨PW,PT,Pr,X1,rfl,LO,Jz,az⟩;have Wj:=Ih (B2 ⟨Lz.YE.toArray⟩ (by decide) Lz.xf Lz.Rz w2 (HE.out.below (ac iV az)).a.m.s);clear cO
 go_wp2_with fail
 refine Wj.out.mono ?_;rintro e w3 ⟨Mg,Mb,L8,YA,rfl,LS,PJ,aO⟩;clear Wj;have Pc:=Jz.below aO
 go_upto_region 3 with fail
 obtain⟨W4,Sw⟩:∃W4,W4=w3.alloc (.cells #[.slice PW PT Pr,.bool false,.slice Mg Mb L8,.bool true] 25):=⟨_,rfl⟩;rw[<-Sw];have e4:Below w3.heap.size w3 W4:=by rw[Sw];exact(Below.refl _ w3).alloc (Nat.le_refl _) _
 have r4:W4.heap[w3.heap.size]? =some (.cells #[.slice PW PT Pr,.bool false,.slice Mg Mb L8,.bool true] 25 (0,0)):=by rw[Sw];exact ah _ _
 have hP:eW W4 (.slice (some ⟨w3.heap.size,0,none⟩) 2 2) [⟨.slice PW PT Pr,X1,false⟩,⟨.slice Mg Mb L8,YA,true⟩]:=Nz r4 (Pc.below e4) (PJ.below e4)
 have kN:([⟨.slice PW PT Pr,X1,false⟩,⟨.slice Mg Mb L8,YA,true⟩]:List aE).map aE.src=Lz.xU:=by
  simp only[List.map_cons,List.map_nil,aE.src,LO.out,LS.out];rfl
 have h14:=ac (ac az aO) e4;have Cl:=ac iV h14;have hu4:=qN.below h14;have r14:=(h14.block _ (af r1)).trans r1;have aS:Below W4.heap.size W4 W4:=Below.refl _ _;have HM:Hid (∀V,Below W4.heap.size W4 V->∀(x:bh) (place:Int) (L:List Lz.uT) (m:Int) (D:List UInt8),Lz.AR (Lz.gK (fC bi aY)) Lz.aG u1 x.src=L->Lz.dj L=(m,D)->Ik x.kind->x.text.size<=1000000->x.integ.size<=100000->Calls Tryz.prog 9 #[.slice (some ⟨w3.heap.size,0,none⟩) 2 2,x.val,.agg #[.string bo,.string cw,.string ck,.bool cv,.string aU,.int .i64 cf,.bool cq,.slice a1 n1 c1,.bool bO,.bool bU,.string cz,.string de],.int .i64 place] V (Tj x place m D L V)):=Ih (fun V hV x place L m D hL hm oW ht hs=>aba bi aY _ _ x _ u1 place L m D V ((HE.out.below Cl).below hV) (hP.below hV) kN oW ht hs (hu4.below hV) hO.out hL hm);have HU:Hid (∀V,Below W4.heap.size W4 V->V.heap[w1.heap.size]? =some (.cells #[.string bo,.string cw,.string ck,.bool cv,.string aU,.int .i64 cf,.bool cq,.slice a1 n1 c1,.bool bO,.bool bU,.string cz,.string de] 32 (0,0))):=Ih (fun V hV=>(hV.block _ (af r14)).trans r14);have aam:=h14;have abD:=iV
 clear Sw e4 r4 hP kN Jz Pc PJ LO LS az aO qN h14 hu4 r14 r1 iV Cl;have Cl:=aS;have ka:=Ih (HM.out W4 Cl ⟨2,0,⟨#[]⟩,⟨#[]⟩,⟨#[121]⟩,⟨#[110]⟩,⟨#[]⟩⟩ 0 [] 1 [] (Lz.Rx _ _ _ _ rfl) rfl ⟨by decide,by decide⟩ (by decide) (by decide))
 dsimp only[bh.val]at ka
 have hua:=(HU.out W4 Cl);obtain⟨x0,x1,x2,x3,x4,x5,x6,x7,x8,x9,nA,nB⟩:=dW hua
 go_wp2_with fail
 refine ka.out.mono ?_;rintro e va ⟨da,sa,ta,ya,rfl,hda,hya,X4,hwa⟩;clear ka hua x0 x1 x2 x3 x4 x5 x6 x7 x8 x9 nA nB
 go_upto_region 4 with fail
 obtain⟨Va,hVa⟩:∃V,V=va.alloc (.cells #[.int .i64 2,.int .i64 0,.string ⟨#[]⟩,.string ⟨#[]⟩,.string ⟨#[121]⟩,.string ⟨#[110]⟩,.string ⟨#[]⟩,.int .i64 1,.string da] 37):=⟨_,rfl⟩;rw[<-hVa];have hea:Below va.heap.size va Va:=by rw[hVa];exact(Below.refl _ va).alloc (Nat.le_refl _) _
 have Cz:Va.heap[va.heap.size]? =some (.cells #[.int .i64 2,.int .i64 0,.string ⟨#[]⟩,.string ⟨#[]⟩,.string ⟨#[121]⟩,.string ⟨#[110]⟩,.string ⟨#[]⟩,.int .i64 1,.string da] 37 (0,0)):=by rw[hVa];exact ah _ _
 have WQ:=ac Cl (ac hwa hea);have hza:Below W4.heap.size W4 Va:=ac hwa hea;replace X4:=X4.below hea;clear hVa hea hwa;have kc:=Ih (HM.out Va WQ ⟨2,0,⟨#[]⟩,⟨#[]⟩,⟨#[121]⟩,⟨#[]⟩,⟨#[]⟩⟩ 3 [⟨0,Lz.dK,false⟩] 2 Lz.dK (Lz.RZ _ _ _ _ rfl) rfl ⟨by decide,by decide⟩ (by decide) (by decide))
 dsimp only[bh.val]at kc
 have huc:=(HU.out Va WQ);obtain⟨x0,x1,x2,x3,x4,x5,x6,x7,x8,x9,nA,nB⟩:=dW huc
 go_wp2_with fail
 refine kc.out.mono ?_;rintro e vc ⟨dc,sc,tc,yc,rfl,hdc,hyc,Qb,OQ⟩;clear kc huc x0 x1 x2 x3 x4 x5 x6 x7 x8 x9 nA nB
 go_upto_region 5 with fail
 obtain⟨Vc,hVc⟩:∃V,V=vc.alloc (.cells #[.int .i64 2,.int .i64 0,.string ⟨#[]⟩,.string ⟨#[]⟩,.string ⟨#[121]⟩,.string ⟨#[]⟩,.string ⟨#[]⟩,.int .i64 2,.string dc] 37):=⟨_,rfl⟩;rw[<-hVc];have hec:Below vc.heap.size vc Vc:=by rw[hVc];exact(Below.refl _ vc).alloc (Nat.le_refl _) _
 have L9:Vc.heap[vc.heap.size]? =some (.cells #[.int .i64 2,.int .i64 0,.string ⟨#[]⟩,.string ⟨#[]⟩,.string ⟨#[121]⟩,.string ⟨#[]⟩,.string ⟨#[]⟩,.int .i64 2,.string dc] 37 (0,0)):=by rw[hVc];exact ah _ _
 have WI:=ac WQ (ac OQ hec);have hzc:Below Va.heap.size Va Vc:=ac OQ hec;replace Qb:=Qb.below hec;clear hVc hec OQ;have kf:=Ih (HM.out Vc WI ⟨8,0,⟨#[]⟩,⟨#[104,116,116,112,115,58,47,47,97,46,98,47,120]⟩,⟨#[]⟩,⟨#[]⟩,⟨#[]⟩⟩ 1 [⟨1,Lz.G5,true⟩] 3 [] (Lz.RL _ _ _ _ rfl) rfl ⟨by decide,by decide⟩ (by decide) (by decide))
 dsimp only[bh.val]at kf
 have huf:=(HU.out Vc WI);obtain⟨x0,x1,x2,x3,x4,x5,x6,x7,x8,x9,nA,nB⟩:=dW huf
 go_wp2_with fail
 refine kf.out.mono ?_;rintro e vf ⟨df,sf,tf,yf,rfl,hdf,hyf,Tx,hwf⟩;clear kf huf x0 x1 x2 x3 x4 x5 x6 x7 x8 x9 nA nB
 go_upto_region 6 with fail
 obtain⟨Vf,hVf⟩:∃V,V=vf.alloc (.cells #[.int .i64 8,.int .i64 0,.string ⟨#[]⟩,.string ⟨#[104,116,116,112,115,58,47,47,97,46,98,47,120]⟩,.string ⟨#[]⟩,.string ⟨#[]⟩,.string ⟨#[]⟩,.int .i64 3,.string df] 37):=⟨_,rfl⟩;rw[<-hVf];have hef:Below vf.heap.size vf Vf:=by rw[hVf];exact(Below.refl _ vf).alloc (Nat.le_refl _) _
 have SG:Vf.heap[vf.heap.size]? =some (.cells #[.int .i64 8,.int .i64 0,.string ⟨#[]⟩,.string ⟨#[104,116,116,112,115,58,47,47,97,46,98,47,120]⟩,.string ⟨#[]⟩,.string ⟨#[]⟩,.string ⟨#[]⟩,.int .i64 3,.string df] 37 (0,0)):=by rw[hVf];exact ah _ _
 have Xb:=ac WI (ac hwf hef);have hzf:Below Vc.heap.size Vc Vf:=ac hwf hef;replace Tx:=Tx.below hef;clear hVf hef hwf;have kh:=Ih (HM.out Vf Xb ⟨4,0,⟨#[]⟩,⟨#[]⟩,⟨#[106,97,118,97,115,99,114,105,112,116,58,49]⟩,⟨#[]⟩,⟨#[]⟩⟩ 2 [⟨0,Lz.dK,false⟩] 2 Lz.dK (Lz.Qv _ _ _ _ rfl) rfl ⟨by decide,by decide⟩ (by decide) (by decide))
 dsimp only[bh.val]at kh
 have huh:=(HU.out Vf Xb);obtain⟨x0,x1,x2,x3,x4,x5,x6,x7,x8,x9,nA,nB⟩:=dW huh
 go_wp2_with fail
 refine kh.out.mono ?_;rintro e vh ⟨dh,sh,th,yh,rfl,hdh,hyh,hvh,hwh⟩;clear kh huh x0 x1 x2 x3 x4 x5 x6 x7 x8 x9 nA nB
 go_upto_region 7 with fail
 obtain⟨Vh,hVh⟩:∃V,V=vh.alloc (.cells #[.int .i64 4,.int .i64 0,.string ⟨#[]⟩,.string ⟨#[]⟩,.string ⟨#[106,97,118,97,115,99,114,105,112,116,58,49]⟩,.string ⟨#[]⟩,.string ⟨#[]⟩,.int .i64 2,.string dh] 37):=⟨_,rfl⟩;rw[<-hVh];have heh:Below vh.heap.size vh Vh:=by rw[hVh];exact(Below.refl _ vh).alloc (Nat.le_refl _) _
 have Yr:Vh.heap[vh.heap.size]? =some (.cells #[.int .i64 4,.int .i64 0,.string ⟨#[]⟩,.string ⟨#[]⟩,.string ⟨#[106,97,118,97,115,99,114,105,112,116,58,49]⟩,.string ⟨#[]⟩,.string ⟨#[]⟩,.int .i64 2,.string dh] 37 (0,0)):=by rw[hVh];exact ah _ _
 have Wr:=ac Xb (ac hwh heh);have XC:Below Vf.heap.size Vf Vh:=ac hwh heh;replace hvh:=hvh.below heh;clear hVh heh hwh;have ki:=Ih (HM.out Vh Wr ⟨15,0,⟨#[]⟩,⟨#[104,116,116,112,115,58,47,47,99,47]⟩,⟨#[]⟩,⟨#[]⟩,⟨#[]⟩⟩ 2 [] 1 [] (Lz.RD _ _ _ _ rfl) rfl ⟨by decide,by decide⟩ (by decide) (by decide))
 dsimp only[bh.val]at ki
 have hui:=(HU.out Vh Wr);obtain⟨x0,x1,x2,x3,x4,x5,x6,x7,x8,x9,nA,nB⟩:=dW hui
 go_wp2_with fail
 refine ki.out.mono ?_;rintro e vi ⟨di,si,ti,yi,rfl,hdi,hyi,hvi,hwi⟩;clear ki hui x0 x1 x2 x3 x4 x5 x6 x7 x8 x9 nA nB
 go_upto_region 8 with fail
 obtain⟨Vi,hVi⟩:∃V,V=vi.alloc (.cells #[.int .i64 15,.int .i64 0,.string ⟨#[]⟩,.string ⟨#[104,116,116,112,115,58,47,47,99,47]⟩,.string ⟨#[]⟩,.string ⟨#[]⟩,.string ⟨#[]⟩,.int .i64 1,.string di] 37):=⟨_,rfl⟩;rw[<-hVi];have hei:Below vi.heap.size vi Vi:=by rw[hVi];exact(Below.refl _ vi).alloc (Nat.le_refl _) _
 have hri:Vi.heap[vi.heap.size]? =some (.cells #[.int .i64 15,.int .i64 0,.string ⟨#[]⟩,.string ⟨#[104,116,116,112,115,58,47,47,99,47]⟩,.string ⟨#[]⟩,.string ⟨#[]⟩,.string ⟨#[]⟩,.int .i64 1,.string di] 37 (0,0)):=by rw[hVi];exact ah _ _
 have abH:=ac Wr (ac hwi hei);have VZ:Below Vh.heap.size Vh Vi:=ac hwi hei;replace hvi:=hvi.below hei;clear hVi hei hwi;replace Cz:=(hzc.block _ (af Cz)).trans Cz;replace Cz:=(hzf.block _ (af Cz)).trans Cz;replace Cz:=(XC.block _ (af Cz)).trans Cz;replace Cz:=(VZ.block _ (af Cz)).trans Cz;replace L9:=(hzf.block _ (af L9)).trans L9;replace Qb:=Qb.below hzf;replace L9:=(XC.block _ (af L9)).trans L9;replace Qb:=Qb.below XC;replace L9:=(VZ.block _ (af L9)).trans L9;replace Qb:=Qb.below VZ;replace SG:=(XC.block _ (af SG)).trans SG;replace Tx:=Tx.below XC;replace SG:=(VZ.block _ (af SG)).trans SG;replace Tx:=Tx.below VZ;replace Yr:=(VZ.block _ (af Yr)).trans Yr
 have la:ya.length=0:=by
  have:=congrArg List.length hya.out
  rwa [List.length_map]at this
 obtain rfl:dc=⟨#[115,99,114,105,112,116,45,115,114,99]⟩:=hdc.out;rw[la];have kC:Hid (∀V,Below Vi.heap.size Vi V->Calls Tryz.prog 10 #[.slice sc yc.length tc,.slice (some ⟨V.heap.size,0,none⟩) 1 1] (V.alloc (.cells #[.int .i64 3,.int .i64 0,.string ⟨#[115,99,114,105,112,116,45,115,114,99]⟩,.bool false] 46)) (aC true (V.alloc (.cells #[.int .i64 3,.int .i64 0,.string ⟨#[115,99,114,105,112,116,45,115,114,99]⟩,.bool false] 46)))):=Ih (fun V hV=>CZ yc ⟨3,0,⟨#[115,99,114,105,112,116,45,115,114,99]⟩,false⟩ V (Qb.below hV) hyc.out);have kF:Hid (∀V,Below Vi.heap.size Vi V->Calls Tryz.prog 10 #[.slice sf yf.length tf,.slice (some ⟨V.heap.size,0,none⟩) 1 1] (V.alloc (.cells #[.int .i64 1,.int .i64 1,.string ⟨#[105,109,103,45,115,114,99]⟩,.bool true] 46)) (aC true (V.alloc (.cells #[.int .i64 1,.int .i64 1,.string ⟨#[105,109,103,45,115,114,99]⟩,.bool true] 46)))):=Ih (fun V hV=>CZ yf ⟨1,1,⟨#[105,109,103,45,115,114,99]⟩,true⟩ V (Tx.below hV) hyf.out);have ma:=rowAt Cz 7 _ rfl;have mc:=rowAt L9 7 _ rfl;have mc8:=rowAt L9 8 _ rfl
 have HR:Hid (∀V,Below Vi.heap.size Vi V->V.cell? ⟨vf.heap.size,7,none⟩=some (.int .i64 3)/\V.cell? ⟨vh.heap.size,7,none⟩=some (.int .i64 2)/\V.cell? ⟨vi.heap.size,7,none⟩=some (.int .i64 1)):=Ih (fun V hV=>⟨rowAt ((hV.block _ (af SG)).trans SG) 7 _ rfl,rowAt ((hV.block _ (af Yr)).trans Yr) 7 _ rfl,rowAt ((hV.block _ (af hri)).trans hri) 7 _ rfl⟩);have hbF:=ac (ac abD aam) abH;clear hya hyc hyf hyh hyi X4 Qb Tx hvh hvi hdc hdf hdh hdi hda Cz L9 SG Yr hri HM HU hzc hzf XC VZ hza
 go_wp2_with fail
 refine(kC.out _ (Below.refl _ _)).mono ?_;rintro e wA ⟨rfl,P0⟩;replace P0:Below Vi.heap.size Vi wA:=ac ((Below.refl _ Vi).alloc (Nat.le_refl _) _) P0;have mf:=(HR.out wA P0).1;clear ma mc mc8 kC
 go_wp2_with fail
 refine(kF.out _ P0).mono ?_;rintro e wB ⟨rfl,CE⟩;replace CE:Below Vi.heap.size Vi wB:=ac (P0.alloc P0.size _) CE;obtain⟨_,mh,mi⟩:=HR.out wB CE;clear mf kF
 go_wp2_with fail
 go_ret;exact⟨rfl,ac hbF CE⟩
end Go.Proofs.YtecoeebjaleeiaaGreatDoor
