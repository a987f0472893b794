/-
  The walks of the document's answer for source expressions, last part: Parse.
-/
import Derived.Test.YtibcmemcfjhgmaaGreatDoorV23
import Derived.Test.YtibcmemcfjhgmaaGreatDoorV15
set_option maxHeartbeats 8000000
set_option maxRecDepth 100000
namespace Go.Proofs.YtibcmemcfjhgmaaGreatDoor
open Go.RowKit
def V8L (R:Nat) (s:Lz.St8 UInt64) (w:World):Prop:=w.heap[R]? =some (.cells (dG s.list).toArray 133 (0,0))
theorem V8L.keep {R:Nat} {h:Lz.St8 UInt64} {w w':World} {B:Nat} (k:V8L R h w) (hb:Below B w w') (hR:R<B):V8L R h w':=by
 unfold V8L at k⊢;rw[hb.block _ hR];exact k
theorem PI (l:List UInt64) (hl:l.length=8) (i:Nat) (hi:i<8) (w:World):(Instr.index 133 (.agg (dG l).toArray) (.int .i64 (i:Int))).run Tryz.prog w=.ok (.int .u64 (N64 (l.getD i 0))) w:=by
 unfold Instr.index;have h0:(0:Int)<=(i:Int):=by omega
 have AP:(dG l)[i]? =some (.int .u64 (N64 (l.getD i 0))):=by
  unfold dG;rw[List.getElem?_map,List.getD_eq_getElem?_getD,List.getElem?_eq_getElem (by omega)];rfl
 have hp:∀W,(part 131 (dG l).toArray i).run Tryz.prog W=.ok (.int .u64 (N64 (l.getD i 0))) W:=fun W=>by
  unfold part
  simp[run_isAgg_plain (P:=Tryz.prog) Tryz.underlying131 rfl,AP]
 simp[run_underlying Tryz.underlying133,asIntOf,h0,hp,hi]
def lM (x:UInt64) (j:Nat):List UInt8:=(List.range j).map fun i=>(x>>>(UInt64.ofNat (56-8*i))).toUInt8
theorem BF (x:UInt64) (j:Nat):lM x (j+1)=lM x j++[(x>>>(UInt64.ofNat (56-8*j))).toUInt8]:=by
 unfold lM;rw[List.range_succ,List.map_append];rfl
theorem YN (y:UInt64):N64 y%256=(y.toUInt8.toNat:Int):=by unfold N64;rw[UInt64.toNat_toUInt8];omega
theorem H5 (aP:List UInt64) (h:Lz.St8 UInt64) (s:ByteArray) (hs:s.size<=1073741824) (w:World) (hT:u9 aP w):Calls Tryz.prog 97 #[.agg (dG h.list).toArray,.string s] w fun e w'=>e=.returned (.string ⟨(Lz.eJ aP h s.data.toList).toArray⟩)/\Below w.heap.size w w':=by
 obtain⟨W1,wE⟩:∃W,W=w.alloc (.cells (dG h.list).toArray 133):=⟨_,rfl⟩;have Ox:V8L w.heap.size h W1:=by rw[wE];exact an _ _
 have y8:Below w.heap.size w W1:=by rw[wE];exact(Below.refl _ w).alloc (Nat.le_refl _) _
 have iz:w.heap.size<W1.heap.size:=by rw[wE];simp
 have kb:=run_bytes_of_string (P:=Tryz.prog) W1 9 93 5 s Tryz.underlying9 Tryz.underlying93 Tryz.underlying5;have Pa:=yc s W1 (by omega);have HW:=Ih wE;have HT:=Ih hT;clear wE hT;obtain⟨cap,jD⟩:∃cap,cap=grownCap W1 s.size 0 5:=⟨_,rfl⟩;rw[<-jD]at kb Pa;clear jD;obtain⟨fz,DR⟩:∃f:Nat×Nat,f=((bytesRow s cap).size,(bytesRow s cap).size+1):=⟨_,rfl⟩;rw[<-DR]at kb Pa;clear DR;obtain⟨br,Zy⟩:∃b,b=bytesRow s cap:=⟨_,rfl⟩;rw[<-Zy]at kb Pa;clear Zy;go_enter Tryz.func97,Tryz.ntmps97
 go_upto_region 1 with fail
 change Code.wp _ _ _ _ (w.alloc (.cells (dG h.list).toArray 133));rw[<-HW.out];have e1:(W1.alloc (.cells br 5 fz)).heap.size=W1.heap.size+1:=by simp
 have GH:Below W1.heap.size W1 ((W1.alloc (.cells br 5 fz)).alloc (.cells #[.int .u8 128] 5)).drew:=(((Below.refl _ W1).alloc (Nat.le_refl _) _).alloc (by simp) _).drew;have Gf:ed ((W1.alloc (.cells br 5 fz)).alloc (.cells #[.int .u8 128] 5)).drew W1.heap.size (.slice (some ⟨W1.heap.size,0,none⟩) s.size cap) s.size s.data.toList:=Pa.kept ((Below.refl _ (W1.drew.alloc (.cells br 5 fz))).alloc (Nat.le_refl _) _)
 have DN:∀j u,(u8s [128])[j]? =some u->((W1.alloc (.cells br 5 fz)).alloc (.cells #[.int .u8 128] 5)).drew.cell? ((⟨W1.heap.size+1,0,none⟩:Addr).add j)=some u:=by
  intro j u hu;have:=aJ (W1.alloc (.cells br 5 fz)) (.int .u8 128) 5 j u hu
  rwa [e1]at this
 clear e1 Pa;obtain⟨n1,KY⟩:∃n,s.size+1=n:=⟨_,rfl⟩;obtain⟨r1,i9⟩:∃n,n=n1%128:=⟨_,rfl⟩;obtain⟨q1,gF⟩:∃n,n=240-r1:=⟨_,rfl⟩;obtain⟨m1,Ax⟩:∃n,n=q1%128:=⟨_,rfl⟩;obtain⟨n2,aan⟩:∃n,n1+m1=n:=⟨_,rfl⟩;obtain⟨n3,aaw⟩:∃n,n2+8=n:=⟨_,rfl⟩;obtain⟨p1,SE⟩:∃l,s.data.toList++[128]=l:=⟨_,rfl⟩;obtain⟨p2,Ay⟩:∃l,p1++List.replicate m1 0=l:=⟨_,rfl⟩;obtain⟨pre,ix⟩:∃l,p2++List.replicate 8 0=l:=⟨_,rfl⟩;have f1:Int.tmod (n1:Int) 128=(r1:Int):=by rw[Int.tmod_eq_emod_of_nonneg (by omega)];omega
 have f1':(n1:Int)%128=(r1:Int):=by omega
 have f2:(240:Int)-(r1:Int)=(q1:Int):=by omega
 have f2':IntKind.i64.wrap (240-(r1:Int))=(q1:Int):=by rw[f2];exact IntWalk.i64_in _ (by omega)
 have f3:Int.tmod (q1:Int) 128=(m1:Int):=by rw[Int.tmod_eq_emod_of_nonneg (by omega)];omega
 have f3':(q1:Int)%128=(m1:Int):=by omega
 have Hm1:Hid (m1=(240-(s.size+1)%128)%128):=by show _=_;rw[Ax,gF,i9,<-KY]
 have av:n1<=1073741825/\n2<=1073742000/\n3<=1073742100:=by omega
 have Hn:Hid (s.size+1=n1/\n1+m1=n2/\n2+8=n3):=⟨KY,aan,aaw⟩;have HP:Hid (s.data.toList++[128]=p1/\p1++List.replicate m1 0=p2/\p2++List.replicate 8 0=pre):=⟨SE,Ay,ix⟩;clear Ax gF i9 KY aan aaw SE Ay ix
 go_wp2_with (at_builtin;refine di rfl (.tmp 13) (.tmp 14) rfl W1.heap.size _ s.size 1 1 n1 _ [128] p1 ⟨W1.heap.size+1,0,none⟩ rfl rfl Gf Hn.out.1 HP.out.1 rfl DN (by omega) GH.size ?_)
 intro v1 w2 Lh Pl;have aE:Below W1.heap.size W1 w2:=Gf.below Pl GH (Nat.le_refl _) GH.size;clear Gf Pl GH DN kb;obtain⟨a1,c1,rfl⟩:=Lh.len
 go_wp2_with (at_builtin;refine jl rfl (.tmp 16) (.tmp 21) rfl W1.heap.size _ n1 m1 n2 _ p2 rfl rfl Lh Hn.out.2.1 HP.out.2.1 (by rw[Hn.out.2.1];omega) aE.size ?_)
 intro v2 w3 wI oI;have bj:Below W1.heap.size W1 w3:=Lh.below oI aE (Nat.le_refl _) aE.size;clear Lh oI aE f1 f1' f2 f2' f3 f3';obtain⟨a2,c2,rfl⟩:=wI.len
 go_wp2_with (at_builtin;refine jl rfl (.tmp 23) (.const (.int .i64 8)) rfl W1.heap.size _ n2 8 n3 _ pre rfl rfl wI Hn.out.2.2 HP.out.2.2 (by omega) bj.size ?_)
 intro v3 w4 hO4 Ov;have eB:Below W1.heap.size W1 w4:=wI.below Ov bj (Nat.le_refl _) bj.size;clear wI Ov bj
 go_wp2_with fail
 go_loopw [5,6,25] (fun v _ k wr=>∃i:Nat,k=.int .i64 i/\i<=8/\ed wr W1.heap.size v (n3+i) (pre++mL s.size i)/\Below W1.heap.size W1 wr) (fun _ _ k _=>8-(intOf k).toNat)
 case atStart=>exact⟨0,rfl,by omega,by rw[show mL s.size 0=[]from rfl,List.append_nil];exact hO4,eB⟩
 case round=>
  obtain⟨i,rfl,hi,ai,hb⟩:=hrel;obtain⟨g,c,rfl,XE,hcN⟩:=ai.form;by_cases aL:i<8
  ·have aK:(i:Int)<8:=by omega
   obtain⟨x,hx⟩:∃x:UInt8,UInt8.ofNat (s.size*8 / 2^(56-8*i))=x:=⟨_,rfl⟩;have Gy:((s.size:Int)*8 / 2^(56-8*i)%256)=(x.toNat:Int):=by rw[<-hx,UInt8.toNat_ofNat'];simp
   have HX:Hid ((pre++mL s.size i)++[x]=pre++mL s.size (i+1)):=by show _=_;rw[xW,hx,List.append_assoc]
   clear hx
   go_wp2_with (at_builtin;refine di rfl (.tmp 28) (.tmp 38) rfl W1.heap.size _ (n3+i) 1 1 (n3+(i+1)) _ [x] (pre++mL s.size (i+1)) ⟨wr.heap.size,0,none⟩ rfl rfl (ai.kept ((Below.refl _ wr).alloc (Nat.le_refl _) _)) (by omega) HX.out rfl (fun j u hu=>aJ wr _ _ j u hu) (by omega) (Nat.le_trans hb.size (by simp)) ?_)
   intro v5 w5 Ou Og;have bv:Below W1.heap.size W1 w5:=(ai.kept ((Below.refl _ wr).alloc (Nat.le_refl _) _)).below Og (hb.alloc hb.size _) (Nat.le_refl _) (Nat.le_trans hb.size (by simp));clear ai Og hb;obtain⟨g5,c5,rfl,_,_⟩:=Ou.form
   go_wp2_with fail
   go_roundw
   case rel=>exact⟨i+1,by go_num,by omega,Ou,bv⟩
   case measure=>simp[intOf];omega
  ·obtain rfl:i=8:=by omega
   obtain⟨N,hN⟩:∃n,n=n3+8:=⟨_,rfl⟩;obtain⟨ml,ws⟩:∃l,l=pre++mL s.size 8:=⟨_,rfl⟩;rw[<-hN]at ai hcN⊢;rw[<-ws]at ai;have hNb:N<=1073742200:=by omega
   have hNq:N%128=0:=by
    have h1:=Hm1.out;have h2:=Hn.out;omega
   have HM:Hid (ml=s.data.toList++Lz.mB s.size):=by
    show _=_;rw[ws,<-HP.out.2.2,<-HP.out.2.1,<-HP.out.1,Hm1.out];unfold Lz.mB;rw[<-List.replicate_append_replicate];show _++Lz.wX s.size=_;simp only[List.append_assoc,List.cons_append,List.nil_append]
   have aau:ml.length=N:=ai.length;obtain⟨q,hq⟩:∃q,N=128*q:=⟨N / 128,by omega⟩;have Hq:=Ih hq;have aaz:=Ih aau;obtain⟨H,hH⟩:∃H,H=w.heap.size:=⟨_,rfl⟩;obtain⟨B1,aas⟩:∃B,B=W1.heap.size:=⟨_,rfl⟩;have hVr:V8L w.heap.size h wr:=Ox.keep hb iz;have hBr:Below w.heap.size w wr:=y8.trans (hb.mono (Nat.le_of_lt iz));have hHw:H<=w.heap.size:=Nat.le_of_eq hH;have HTb:Hid (∀V,Below H w V->u9 aP V):=Ih (fun V hV=>HT.out.keep (hH▸hV));rw[<-hH]at hVr hBr iz⊢;rw[<-aas]at ai iz;have ZD:H<B1:=iz;have HHE:=Ih hH;clear hH aas hN ws hq aau Ox hb hNq iz
   go_wp2_with fail
   go_loopw [7] (fun a wr=>∃j:Nat,a=.int .i64 ((128*j:Nat):Int)/\j<=q/\V8L H (Lz.bh (Lz.kH aP) 128 j h ml) wr/\ed wr B1 (.slice (some ⟨g,0,none⟩) N c) N ml/\Below H w wr) (fun a _=>N-(intOf a).toNat)
   case atStart=>exact⟨0,rfl,by omega,hVr,ai,hBr⟩
   case round=>
    obtain⟨j,rfl,hj,hV,hO,hB⟩:=hrel;obtain⟨a1,Gg⟩:∃a,a=128*j:=⟨_,rfl⟩;rw[<-Gg];by_cases aL:j<q
    ·have gF:=Hq.out;have h1:(a1:Int)<(N:Int):=by omega
     have h3:a1+128<=N:=by omega
     obtain⟨a2,ti⟩:∃a,a=a1+128:=⟨_,rfl⟩;have fw:IntKind.i64.wrap ((a1:Int)+128)=(a2:Int):=by rw[show(a1:Int)+128=(a2:Int) by omega];exact IntWalk.i64_in _ (by omega)
     have h2:(0:Int)<=(a2:Int)/\(a2:Int)<=(c:Int):=by omega
     have h4:a1<=a2:=by omega
     have h5:a2-a1=128:=by omega
     have h6:¬c=a1:=by omega
     have Ha2:=Ih ti;clear ti;obtain⟨F,hF⟩:∃F,F=Lz.bh (Lz.kH aP) 128 j h ml:=⟨_,rfl⟩;rw[<-hF]at hV;obtain⟨bb,mr⟩:∃b:ByteArray,b=⟨((ml.drop a1).take 128).toArray⟩:=⟨_,rfl⟩
     have R3:bb.size=128:=by
      rw[<-ac,mr];show((ml.drop a1).take 128).length=_;rw[List.length_take,List.length_drop,aaz.out];omega
     have HTX:Hid (∀V,ed V B1 (.slice (some ⟨g,0,none⟩) N c) N ml->(convert 93 9 (.slice (some ⟨g,a1,none⟩) 128 (c-a1))).run Tryz.prog V=.ok (.string bb) V):=Ih (fun V hV=>by rw[mr];exact hV.text a1 128 (c-a1) h3);obtain⟨Y,hY⟩:∃Y,Y=Lz.kH aP F bb.data.toList:=⟨_,rfl⟩;have cWi:Hid (∀W,u9 aP W->Calls Tryz.prog 140 #[.agg (dG F.list).toArray,.string bb] W fun e w'=>e=.returned (.agg (dG Y.list).toArray)/\Below W.heap.size W w'):=Ih (fun W hT=>by rw[hY];exact NO aP F bb R3 W hT)
     have HF:Hid (Lz.bh (Lz.kH aP) 128 (j+1) h ml=Y):=by
      show _=_;rw[kr,<-Gg,<-hF,hY,mr]
     have Ha1:=Ih Gg;clear Gg hF mr h3 gF hY
     go_upto_region 12 with fail
     have hV0:V8L H F wr.drew:=hV;refine wp_region_held_drew (S:=fun V=>ed V B1 (.slice (some ⟨g,0,none⟩) N c) N ml/\Below H w V) (by kernel_rfl) ⟨hO.kept (Below.refl _ wr).drew,hB.drew⟩ (fun af=>?_);generalize wr.drew=W2 at af hV0⊢;apply TkG 1 48;apply TkG 2 49;apply TkG 3 50;apply TkG 4 51;apply TkG 5 52;apply TkG 6 53
     iterate 6 (rotate_right 2;(·(intro W ar;(try dsimp only at ar);have hTx:=HTX.out W ar.1;(try simp only[Act.put]);(try simp only[List.setIfInBounds_toArray]);(try simp only[List.set_cons_zero,List.set_cons_succ]);go_simp;try with_reducible rfl)))
     (try simp only[Act.put]);(try simp only[List.setIfInBounds_toArray]);(try simp only[List.set_cons_zero,List.set_cons_succ])
     refine wpAnyH_ready (rs:=[0]) (by kernel_rfl) (by simp) ?_;refine AllReadyH.cons rfl (fun K hK=>?_) AllReadyH.nil;rw[if_pos (by rfl)];refine wp_load_row 133 (.tmp 2) rfl H rfl 133 _ (0,0) _ hV0 Tryz.underlying133 rfl nT ?_;refine hK.out _ _ af (fun af=>?_);clear hK K
     (try simp only[Act.put]);(try simp only[List.setIfInBounds_toArray]);(try simp only[List.set_cons_zero,List.set_cons_succ])
     refine wpAnyH_ready (rs:=[7]) (by kernel_rfl) (by simp) ?_;refine AllReadyH.cons rfl (fun K hK=>?_) AllReadyH.nil;go_simp
     go_at_call 140
     refine(cWi.out W2 (HTb.out W2 af.2)).mono ?_;rintro e w5 ⟨rfl,bv⟩;refine hK.out _ _ ⟨af.1.kept bv,af.2.trans (bv.mono (Nat.le_trans hHw af.2.size))⟩ (fun Gh=>?_);clear hK K;have TB:=hV0.keep bv (aZ hV0)
     (try simp only[Act.put]);(try simp only[List.setIfInBounds_toArray]);(try simp only[List.set_cons_zero,List.set_cons_succ])
     refine wpAnyH_ready (rs:=[8]) (by kernel_rfl) (by simp) ?_;refine AllReadyH.cons rfl (fun K hK=>?_) AllReadyH.nil;rw[if_pos (by rfl)];refine wp_store_row 133 (.tmp 2) (.tmp 54) rfl H (dG Y.list).toArray rfl rfl 133 _ TB nT rfl (NS _) ?_;refine hK.out _ _ ⟨Gh.1.setRow H _ ZD,aR Gh.2 (Nat.le_refl _)⟩ (fun af=>?_);clear hK K
     (try simp only[Act.put]);(try simp only[List.setIfInBounds_toArray]);(try simp only[List.set_cons_zero,List.set_cons_succ])
     refine wpAnyH_done (by kernel_rfl) ?_ _;have hV6:V8L H Y (w5.setRow H (dG Y.list).toArray):=setRow_heap _ _ _ _ _ _ TB;obtain⟨hO6,hB6⟩:=af;clear TB hV0 Gh hO hV hB;generalize w5.setRow H (dG Y.list).toArray=w6 at hV6 hO6 hB6⊢
     go_wp2_with fail
     refine⟨⟨_,_,_,_,_,_,_,_,_,_,_,_,_,_,_,?rel,rfl⟩,?measure⟩
     case rel=>exact⟨j+1,by rw[Ha2.out,Ha1.out];go_num,by omega,by rw[HF.out];exact hV6,hO6,hB6⟩
     case measure=>simp[intOf];omega
    ·obtain rfl:j=q:=by omega
     have ti:a1=N:=by rw[Gg,<-Hq.out]
     subst ti;clear Gg;have h1:¬((a1:Int)<(a1:Int)):=by omega
     obtain⟨F,hF⟩:∃F,F=Lz.bh (Lz.kH aP) 128 j h ml:=⟨_,rfl⟩;rw[<-hF]at hV
     have HF:Hid (Lz.eJ aP h s.data.toList=F.list.flatMap Lz.iZ):=by
      show _=_;unfold Lz.eJ Lz.BA;rw[ac,<-HM.out,aaz.out,hF,show a1 / 128=j by have:=Hq.out;omega]
     clear hF hO;obtain⟨i0,j6,eZ,d9,eo⟩:=info_parts Tryz.infoU8
     go_wp2_with (first |(refine wpList_load_row rfl 133 (.tmp 2) rfl H rfl 133 _ (0,0) _ hV Tryz.underlying133 rfl nT ?_))
     have sQ:=Ih (fun(i:Nat) (hi:i<8) W=>PI F.list rfl i hi W);obtain⟨A8,TL⟩:∃A,A=(dG F.list).toArray:=⟨_,rfl⟩;rw[<-TL]at sQ⊢;clear TL hV;have Tq:H<=w.heap.size:=hHw
     go_loopw [8,10,11,56,59] (fun v _ _ k _ wr=>∃i:Nat,k=.int .i64 i/\i<=8/\wr.ownsRow H 5 1 v (8*i) (u8s ((F.list.take i).flatMap Lz.iZ))/\Below H w wr) (fun _ _ _ k _ _=>8-(intOf k).toNat)
     case atStart=>exact⟨0,rfl,by omega,World.ownsRow_nil _ _ _ _,hB⟩
     case round=>
      obtain⟨i8,rfl,So,ai,hb⟩:=hrel;by_cases aL:i8<8
      ·have aK:(i8:Int)<8:=by omega
       have abX:(0:Int)<=(i8:Int)/\(i8:Int)<8:=by omega
       have wy:=sQ.out i8 aL;obtain⟨x,hx⟩:∃x,F.list.getD i8 0=x:=⟨_,rfl⟩;rw[hx]at wy;obtain⟨L0,hL0⟩:∃l,l=(F.list.take i8).flatMap Lz.iZ:=⟨_,rfl⟩;rw[<-hL0]at ai
       have HN:Hid ((F.list.take (i8+1)).flatMap Lz.iZ=L0++lM x 8):=by
        show _=_;have h8:i8<F.list.length:=aL;rw[List.take_succ_eq_append_getElem h8,List.flatMap_append,<-hL0,<-hx,List.getD_eq_getElem?_getD,List.getElem?_eq_getElem h8]
        simp[lM,Lz.iZ]
       clear hx hL0;obtain⟨N0,hN0⟩:∃n,n=8*i8:=⟨_,rfl⟩;rw[<-hN0]at ai;have HN0:=Ih hN0;have ac6:N0<=64:=by omega
       clear hN0
       go_wp2_with fail
       go_loopw [8,11,59] (fun v _ k wr=>∃i:Nat,k=.int .i64 i/\i<=8/\wr.ownsRow H 5 1 v (N0+i) (u8s (L0++lM x i))/\Below H w wr) (fun _ _ k _=>8-(intOf k).toNat)
       case atStart=>exact⟨0,rfl,by omega,by rw[show lM x 0=[]from rfl,List.append_nil];exact ai,hb⟩
       case round=>
        obtain⟨i,rfl,hi,ai,hb⟩:=hrel;have bi:=Ih ai;have fu:=Nat.le_trans Tq hb.size;clear ai;by_cases tk:i<8
        ·have TC:(i:Int)<8:=by omega
         obtain⟨c8,TO⟩:∃c:UInt8,(x>>>UInt64.ofNat (56-8*i)).toUInt8=c:=⟨_,rfl⟩
         have Gy:N64 x / 2^(56-8*i)%256=(c8.toNat:Int):=by
          rw[Ed x _ (by omega),<-TO,YN]
         have iA:Hid (u8s (L0++lM x i)++[.int .u8 (c8.toNat:Int)]=u8s (L0++lM x (i+1))):=by
          show _=_;rw[vE,BF,TO,List.append_assoc]
         clear TO
         go_wp2_with (at_builtin;refine wpList_append_own _ rfl (.tmp 62) (.tmp 69) 93 rfl H 5 i0 (.int .u8 0) 1 1 Tryz.underlying93 j6 eZ d9 eo rfl (by decide) _ _ _ rfl (bi.out.alloc _) ⟨wr.heap.size,0,none⟩ 1 1 [.int .u8 (c8.toNat:Int)] rfl rfl (aJ _ _ _) (by simp[Value.oneCell']) (by unfold maxLen;omega) (by omega) (by simp;omega) ?_)
         intro v' w9 aS bp _;have IJ:=Below.grown1 hb bi.out bp fu (Nat.le_refl _);rw[iA.out]at aS;have ir:=Ih aS;clear aS bp iA hb
         go_wp2_with fail
         go_roundw
         case rel=>exact⟨i+1,by go_num,by omega,ir.out,IJ⟩
         case measure=>simp[intOf];omega
        ·obtain rfl:i=8:=by omega
         have TC:¬(((8:Nat):Int)<8):=by omega
         go_wp2_with fail
         go_roundw
         case rel=>exact⟨i8+1,by go_num,by omega,by rw[HN.out,show 8*(i8+1)=N0+8 by have:=HN0.out;omega];exact bi.out,hb⟩
         case measure=>simp[intOf];omega
      ·obtain rfl:i8=8:=by omega
       have aK:¬(((8:Nat):Int)<8):=by omega
       have kL:=kW ai;clear ai
       go_wp2_with fail
       go_ret;rw[HF.out,show F.list.take 8=F.list from rfl];exact⟨rfl,HHE.out▸hb⟩
def eb:Lz.St8 UInt64:=⟨0x6a09e667f3bcc908,0xbb67ae8584caa73b,0x3c6ef372fe94f82b,0xa54ff53a5f1d36f1,0x510e527fade682d1,0x9b05688c2b3e6c1f,0x1f83d9abfb41bd6b,0x5be0cd19137e2179⟩
theorem VN:(#[.int .u64 7640891576956012808,.int .u64 13503953896175478587,.int .u64 4354685564936845355,.int .u64 11912009170470909681,.int .u64 5840696475078001361,.int .u64 11170449401992604703,.int .u64 2270897969802886507,.int .u64 6620516959819538809]:Array Value)=(dG eb.list).toArray:=by kernel_rfl
def dO:Lz.St8 UInt64:=⟨0xcbbb9d5dc1059ed8,0x629a292a367cd507,0x9159015a3070dd17,0x152fecd8f70e5939,0x67332667ffc00b31,0x8eb44a8768581511,0xdb0c2e0d64f98fa7,0x47b5481dbefa4fa4⟩
theorem Vp:(#[.int .u64 14680500436340154072,.int .u64 7105036623409894663,.int .u64 10473403895298186519,.int .u64 1526699215303891257,.int .u64 7436329637833083697,.int .u64 10282925794625328401,.int .u64 15784041429090275239,.int .u64 5167115440072839076]:Array Value)=(dG dO.list).toArray:=by kernel_rfl
theorem rx (aP:List UInt64) (h:Lz.St8 UInt64) (l:List UInt8):(Lz.eJ aP h l).length=64:=Lz.qM _
theorem uA (aP:List UInt64) (s:ByteArray) (hs:s.size<=1073741824) (w:World) (hT:u9 aP w):Calls Tryz.prog 55 #[.string s] w (dX (Lz.eJ aP eb s.data.toList) w):=by
 have cS:=Ih (H5 aP eb s hs w hT);clear hT;go_enter Tryz.func55,Tryz.ntmps55
 go_wp2_with fail
 rw[VN];refine cS.out.mono ?_;rintro e w1 ⟨rfl,av⟩
 go_wp2_with fail
 go_ret;exact⟨_,rfl,rfl,av⟩
theorem uq (aP:List UInt64) (s:ByteArray) (hs:s.size<=1073741824) (w:World) (hT:u9 aP w):Calls Tryz.prog 54 #[.string s] w (dX ((Lz.eJ aP dO s.data.toList).take 48) w):=by
 have cS:=Ih (H5 aP dO s hs w hT);obtain⟨l,hl⟩:∃l,l=Lz.eJ aP dO s.data.toList:=⟨_,rfl⟩;have jf:l.length=64:=by rw[hl];exact rx _ _ _
 rw[<-hl]at cS⊢;clear hT hl;go_enter Tryz.func54,Tryz.ntmps54
 go_wp2_with fail
 rw[Vp];refine cS.out.mono ?_;rintro e w1 ⟨rfl,av⟩;obtain⟨T,hT⟩:∃T:ByteArray,T=⟨l.toArray⟩:=⟨_,rfl⟩;have hz:T.size=64:=by rw[hT];show l.toArray.size=64;rw[List.size_toArray,jf]
 have hd:T.data.toList=l:=by rw[hT]
 have Hd:=Ih hd;rw[<-hT];clear hT hd jf
 go_wp2_with fail
 go_ret;exact⟨_,rfl,Ih (by rw[<-Hd.out];simp[ByteArray.data_extract]),av⟩
def brL:List UInt8:=(List.range 256).map fun k=>Lz.gI (UInt8.ofNat k)
def jn (w:World) (g:Nat):Prop:=w.heap[g]? =some (.cells (u8s brL).toArray 261 (0,0))
theorem jn.kept {w w':World} {g:Nat} (h:jn w g) (hk:∀(k:Nat) (cs:Array Value) (t:TypeId),w.heap[k]? =some (.cells cs t (0,0))->t=261->w'.heap[k]? =w.heap[k]?):jn w' g:=by
 unfold jn at h⊢;rw[hk g _ _ h rfl];exact h
theorem jn.set {w:World} {g b:Nat} {d s e:Int} {rv ov:Value} (h:jn w g) (hr:bM w b d s e rv ov) (k:Nat) (v:Value):jn (w.setCell ⟨b,k,none⟩ v) g:=
 h.kept fun j _ _ hj ht=>kB (fun e=>by
  have e':j=b:=e;rw[e',show w.heap[b]? =_ from hr]at hj;injection hj with hj
  injection hj with _ h2 _
  rw[ht]at h2;exact absurd h2 (by decide)) v
def lI (B b:Nat) (d s e:Int) (w:World) (w':World):Prop:=Below B w w'/\∃g,bM w' b d s e (.iface 262 (.pointer (some ⟨g,0,none⟩))) (.slice none 0 0)/\jn w' g
theorem Ya (B b:Nat) (e:Int) (rv ov:Value) (w:World) (rH:B<=b) (bz:bM w b 0 0 e rv ov)
  (cB:∀W,Below B w W->W=w.setCell ⟨b,1,none⟩ (.int .i32 1)->Calls Tryz.prog 105 #[.pointer (some ⟨b,0,none⟩)] W fun e' W'=>e'=.returned (.tuple #[])/\lI B b 0 1 e W W'):
  Calls Tryz.prog 155 #[.pointer (some ⟨b,0,none⟩),.func (.func 105) #[.pointer (some ⟨b,0,none⟩)] #[]] w fun e' w'=>e'=.returned (.tuple #[])/\lI B b 1 0 e w w':=by
 have c0:=rowAt bz 0 (.int .u32 0) rfl;have c1:=rowAt bz 1 (.int .i32 0) rfl;have f0:=bX bz 0;have f1:=bX bz 1;have hl:=run_call_load (P:=Tryz.prog) Tryz.func219 (by kernel_rfl) (by kernel_rfl) (by kernel_rfl) .u32 (by kernel_rfl) (w:=w.setCell ⟨b,1,none⟩ (.int .i32 1)) (a:=⟨b,0,none⟩) (x:=0) ((World.cell?_setCell_other _ ⟨b,1,none⟩ ⟨b,0,none⟩ _ (by simp)).trans c0);have Wk:∀(x:Bool) (w:World),(Op.unary .not (.bool x)).run Tryz.prog w=.ok (.bool (!x)) w:=fun _ _=>rfl;have av:Below B w (w.setCell ⟨b,1,none⟩ (.int .i32 1)):=(Below.refl B w).setCell (p:=⟨b,1,none⟩) rH _;have CB:=Ih (cB _ av rfl);have Hb1:=Ih av;clear cB av
 go_enter_defers Tryz.func155,Tryz.ntmps155
 go_wp2_with (first |(go_at_call 220;refine(SV ⟨b,1,none⟩ _ (by go_simp) (by go_simp)).mono ?_;rintro e w' ⟨rfl,rfl⟩)|(go_at_call 154;go_in)|(go_at_call 105;refine CB.out.mono ?_;rintro e2 w2 ⟨rfl,DV⟩))
 obtain⟨aC,g,iG,pF⟩:=DV;have d0:=rowAt iG 0 (.int .u32 0) rfl;have d1:=rowAt iG 1 (.int .i32 1) rfl;have z0:=bX iG 0;have z1:=bX iG 1;have pB:bM (w2.drew.setCell ⟨b,0,none⟩ (.int .u32 1)) b 1 1 e (.iface 262 (.pointer (some ⟨g,0,none⟩))) (.slice none 0 0):=bM.set (w:=w2.drew) iG 0 (.int .u32 1) (by simp);have nw:jn (w2.drew.setCell ⟨b,0,none⟩ (.int .u32 1)) g:=jn.set (w:=w2.drew) (pF.kept fun _ _ _ _ _=>rfl) iG 0 _;have AK:=bM.set pB 1 (.int .i32 0) (d':=1) (s':=0) (rv':=.iface 262 (.pointer (some ⟨g,0,none⟩))) (ov':=.slice none 0 0) (by simp);have Om:=jn.set nw pB 1 (.int .i32 0);refine leaves_cons (f:=222) (args:= #[.pointer (some ⟨b,0,none⟩),.bool true]) (by simp) (by simp[go_sem]) ?_;refine(NY ⟨b,0,none⟩ (.int .u32 0) .returning _ d0 z0).mono ?_;rintro e3 u3 w3 ⟨rfl,rfl,rfl⟩;refine leaves_cons (f:=221) (args:= #[.pointer (some ⟨b,1,none⟩)]) (by simp[settle]) (by simp[go_sem]) ?_;refine(GR ⟨b,1,none⟩ _ _ (rowAt pB 1 _ rfl) (bX pB 1)).mono ?_;rintro e3 u3 w3 ⟨rfl,rfl,rfl⟩
 have VU:Below B w ((w2.drew.setCell ⟨b,0,none⟩ (.int .u32 1)).setCell ⟨b,1,none⟩ (.int .i32 0)):=((Hb1.out.trans aC).drew.setCell (p:=⟨b,0,none⟩) rH _).setCell (p:=⟨b,1,none⟩) rH _;have HF:Hid (lI B b 1 0 e w ((w2.drew.setCell ⟨b,0,none⟩ (.int .u32 1)).setCell ⟨b,1,none⟩ (.int .i32 0))):=⟨VU,g,AK,Om⟩;clear iG pB AK pF nw Om VU
 simp[Leaves,settle,results,Tryz.results155]
 exact HF.out
theorem doP (B b:Nat) (e:Int) (rv ov:Value) (w:World) (rH:B<=b) (bz:bM w b 0 0 e rv ov)
  (cB:∀W,Below B w W->W=w.setCell ⟨b,1,none⟩ (.int .i32 1)->Calls Tryz.prog 105 #[.pointer (some ⟨b,0,none⟩)] W fun e' W'=>e'=.returned (.tuple #[])/\lI B b 0 1 e W W'):
  Calls Tryz.prog 104 #[.pointer (some ⟨b,0,none⟩),.func (.func 105) #[.pointer (some ⟨b,0,none⟩)] #[]] w fun e' w'=>e'=.returned (.tuple #[])/\lI B b 1 0 e w w':=by
 have c0:=rowAt bz 0 (.int .u32 0) rfl;have hl:=run_call_load (P:=Tryz.prog) Tryz.func219 (by kernel_rfl) (by kernel_rfl) (by kernel_rfl) .u32 (by kernel_rfl) c0;have Wk:∀(x:Bool) (w:World),(Op.unary .not (.bool x)).run Tryz.prog w=.ok (.bool (!x)) w:=fun _ _=>rfl;have cS:=Ih (Ya B b e rv ov w rH bz cB);clear cB;go_enter Tryz.func104,Tryz.ntmps104
 go_wp2_with (first |(go_at_call 155;refine cS.out.mono ?_;rintro e w' ⟨rfl,DV⟩)|(go_at_call 154;go_in))
 go_end0
 exact⟨rfl,DV⟩
def rsP:List ByteArray:=[⟨#[45]⟩,⟨#[43]⟩,⟨#[95]⟩,⟨#[47]⟩]
def YA (B:Nat) (w:World) (e:Ending) (w':World):Prop:=∃b G c,e=.returned (.pointer (some ⟨b,0,none⟩))/\B<=b/\bM w' b 0 0 0 .nilIface (.slice (some ⟨G,0,none⟩) 4 c)/\w'.ownsRow B 9 1 (.slice (some ⟨G,0,none⟩) 4 c) 4 (rsP.map Value.string)/\Below w.heap.size w w'
theorem Ju (B:Nat) (p:Addr) (c:Nat) (w:World) (hB:B<=w.heap.size) (hc:∀(j:Nat) (u:Value),(rsP.map Value.string)[j]? =some u->w.cell? (p.add j)=some u):
  Calls Tryz.prog 63 #[.slice (some p) 4 c] w (YA B w):=by
 obtain⟨i0,hi,eZ,d9,eo⟩:=info_parts nK;have Hc:=Ih hc;clear hc;go_enter Tryz.func63,Tryz.ntmps63
 go_wp2_with (at_builtin;refine wpList_append_own _ rfl (.const (.slice none 0 0)) (.tmp 8) 22 rfl B 9 i0 (.string ⟨#[]⟩) 1 16 Tryz.underlying22 hi eZ d9 eo rfl (by decide) _ 0 [] rfl (World.ownsRow_nil _ B _ _) p 4 c (rsP.map Value.string) rfl rfl Hc.out (by decide) (by unfold maxLen;omega) (by omega) (by omega) ?_)
 intro v' w' ai hg rL;have hb:Below w.heap.size w w':=(Below.refl _ w).grown hg (Nat.le_refl _) (fun k hk=>by simp[Value.ownBlock]at hk);have hP:bG w' B v' rsP:=.inl ai;obtain⟨a',c',hv',_,aW⟩:=hP.form;have pE:v'=.slice a' 4 c':=hv';subst pE;obtain⟨G,off,rfl,_,_⟩:=aW 0 ⟨#[45]⟩ rfl
 have Xm:off=0:=by
  rcases ai.2 with⟨h,_⟩|⟨g,cap,dx,h,_⟩
  ·cases h
  ·injection h with h _ _;injection h with h;injection h with h1 h2 _
 subst Xm;have bi:Hid (w'.ownsRow B 9 1 (.slice (some ⟨G,0,none⟩) 4 c') 4 (rsP.map Value.string)):=Ih ai;have hwz:=hb.size;clear ai hg hP aW rL hv'
 go_wp2_with fail
 go_ret;refine⟨_,G,c',rfl,by omega,?_,bi.out.alloc _,ae hb ((Below.refl _ _).alloc (Nat.le_refl _) _)⟩;show(w'.heap.push _)[w'.heap.size]? =_
 simp
theorem YB (W:World):(Instr.index 9 (.string ⟨#[95]⟩) (.int .i64 0)).run Tryz.prog W=.ok (.int .u8 95) W:=by kernel_rfl
theorem YU (W:World):(Instr.index 9 (.string ⟨#[47]⟩) (.int .i64 0)).run Tryz.prog W=.ok (.int .u8 47) W:=by kernel_rfl
theorem Zj (W:World):(Instr.index 9 (.string ⟨#[45]⟩) (.int .i64 0)).run Tryz.prog W=.ok (.int .u8 45) W:=by kernel_rfl
theorem YQ (W:World):(Instr.index 9 (.string ⟨#[43]⟩) (.int .i64 0)).run Tryz.prog W=.ok (.int .u8 43) W:=by kernel_rfl
theorem NG:Tryz.zeroCells261=Array.replicate 256 (.int .u8 0):=by kernel_rfl
theorem VE:(Tryz.prog.info? 261).map (·.size)=some 256:=by kernel_rfl
def idL (k:Nat):List UInt8:=(List.range k).map UInt8.ofNat++List.replicate (256-k) 0
theorem QM (k:Nat) (hk:k<256):(u8s (idL k)).toArray.setIfInBounds k (.int .u8 (k:Int))=(u8s (idL (k+1))).toArray:=by
 rw[List.setIfInBounds_toArray];congr 1;have hv:(Value.int .u8 (k:Int))=.int .u8 ((UInt8.ofNat k).toNat:Int):=by rw[UInt8.toNat_ofNat',Nat.mod_eq_of_lt (show k<2^8 by omega)]
 unfold u8s idL;rw[hv,<-List.map_set (f:=fun c:UInt8=>Value.int .u8 c.toNat),List.set_append_right _ _ (by rw[List.length_map,List.length_range];exact Nat.le_refl _),List.length_map,List.length_range,Nat.sub_self,show 256-k=(256-(k+1))+1 by omega,List.replicate_succ,List.set_cons_zero,List.range_succ,List.map_append (f:=UInt8.ofNat),List.append_assoc];rfl
theorem RJ (k:Nat) (hk:k<=256):(idL k).length=256:=by
 unfold idL;rw[List.length_append,List.length_map,List.length_range,List.length_replicate];omega
theorem Q0:(((u8s (idL 256)).toArray.setIfInBounds 95 (.int .u8 47)).setIfInBounds 45 (.int .u8 43))=(u8s brL).toArray:=by
 have h:((idL 256).set 95 47).set 45 43=brL:=by decide +kernel
 rw[<-h];unfold u8s;rw[List.setIfInBounds_toArray,List.setIfInBounds_toArray,List.map_set,List.map_set];rfl
def Qp (w:World) (e:Ending) (w':World):Prop:=∃g,e=.returned (.iface 262 (.pointer (some ⟨g,0,none⟩)))/\Below w.heap.size w w'/\jn w' g
theorem Fa (B b:Nat) (e:Int) (G c:Nat) (w:World) (hr:bM w b 0 1 e .nilIface (.slice (some ⟨G,0,none⟩) 4 c)) (ai:w.ownsRow B 9 1 (.slice (some ⟨G,0,none⟩) 4 c) 4 (rsP.map Value.string)):
  Calls Tryz.prog 156 #[.pointer (some ⟨b,0,none⟩)] w (Qp w):=by
 have r4:=rowAt hr 4 (.slice (some ⟨G,0,none⟩) 4 c) rfl
 have Ge:∀k x,rsP[k]? =some x->w.cell? ⟨G,k,none⟩=some (.string x):=fun k x hk=>by
  have:=ai.cells (g:=G) rfl k (.string x) (by rw[List.getElem?_map,hk];rfl);rw[bD]at this;exact this
 have o0:=Ge 0 ⟨#[45]⟩ rfl;have o1:=Ge 1 ⟨#[43]⟩ rfl;have o2:=Ge 2 ⟨#[95]⟩ rfl;have o3:=Ge 3 ⟨#[47]⟩ rfl;have KS:G<w.heap.size:=World.block_lt_of_cell? _ _ o0;have Ol:=Ih Ge;clear ai hr Ge;go_enter Tryz.func156,Tryz.ntmps156
 go_wp2_with fail
 refine wp_loop_rounds 3 ?_;rw[rounds_succ]
 go_wp2_with fail
 rw[rounds_succ]
 go_wp2_with fail
 rw[rounds_succ];clear o0 o1 o2 o3 r4
 go_wp2_with (refine wpList_store_row rfl 261 (.tmp 6) (.tmp 60) rfl w.heap.size (Array.replicate 256 (.int .u8 0)) rfl (by rw[<-NG];rfl) 261 Tryz.zeroCells261 (by show(w.heap.push _)[w.heap.size]? =_;simp) (by rw[Array.size_replicate];exact VE) (by rw[NG]) (by kernel_rfl) ?_)
 have jq:((w.alloc (.cells Tryz.zeroCells261 261)).setRow w.heap.size (Array.replicate 256 (.int .u8 0))).heap[w.heap.size]? =some (.cells (u8s (idL 0)).toArray 261 (0,0)):=by
  rw[show(u8s (idL 0)).toArray=Array.replicate 256 (.int .u8 0) by kernel_rfl];exact setRow_heap _ _ Tryz.zeroCells261 _ _ _ (an _ _)
 have av:Below w.heap.size w ((w.alloc (.cells Tryz.zeroCells261 261)).setRow w.heap.size (Array.replicate 256 (.int .u8 0))):=aR ((Below.refl _ w).alloc (Nat.le_refl _) _) (Nat.le_refl _);generalize (w.alloc (.cells Tryz.zeroCells261 261)).setRow w.heap.size (Array.replicate 256 (.int .u8 0))=w1 at jq av⊢;obtain⟨g0,GA⟩:∃g,g=w.heap.size:=⟨_,rfl⟩;rw[<-GA]at jq av⊢;have hGg:G<g0:=by rw[GA];exact KS
 have Hg0:=Ih GA;clear GA KS
 go_wp2_with fail
 go_loopw [7,61] (fun _ k wr=>∃i:Nat,k=.int .i64 i/\i<=256/\wr.heap[g0]? =some (.cells (u8s (idL i)).toArray 261 (0,0))/\Below g0 w wr) (fun _ k _=>256-(intOf k).toNat)
 case atStart=>exact⟨0,rfl,by omega,jq,av⟩
 case round=>
  obtain⟨i,rfl,hi,hR,hb⟩:=hrel;clear jq av;by_cases aL:i<256
  ·have aK:(i:Int)<256:=by omega
   have j6:(0:Int)<=(i:Int)/\(i:Int)<256:=by omega
   have fm:IntKind.u8.wrap (i:Int)=(i:Int):=IntWalk.u8_in _ (by omega);have fm2:(i:Int)%256=(i:Int):=by omega
   obtain⟨v,hv⟩:∃v,(u8s (idL i)).toArray[i]? =some v:=⟨_,Array.getElem?_eq_getElem (by rw[List.size_toArray,fi,RJ _ hi];exact aL)⟩;have hc:=rowAt hR i v hv;have hf:=bX hR i;have nW:=jc hR i (.int .u8 (i:Int)) (QM i aL);have aE:=hb.setCell (p:=⟨g0,i,none⟩) (Nat.le_refl _) (.int .u8 (i:Int));clear hv
   go_wp2_with fail
   go_roundw
   case rel=>exact⟨i+1,by go_num,by omega,nW,aE⟩
   case measure=>simp[intOf];omega
  ·obtain rfl:i=256:=by omega
   have aK:¬(((256:Nat):Int)<256):=by omega
   have c2:wr.cell? ⟨G,2,none⟩=some (.string ⟨#[95]⟩):=by rw[hb.cell (p:=⟨G,2,none⟩) hGg];exact Ol.out 2 ⟨#[95]⟩ rfl
   have c3:wr.cell? ⟨G,3,none⟩=some (.string ⟨#[47]⟩):=by rw[hb.cell (p:=⟨G,3,none⟩) hGg];exact Ol.out 3 ⟨#[47]⟩ rfl
   have abZ:=fun W:World=>YB W;have abA:=fun W:World=>YU W;have ab0:=fun W:World=>Zj W;have abz:=fun W:World=>YQ W;have hc:=rowAt hR 95 (.int .u8 95) (by kernel_rfl);have hf:=bX hR 95;have nW:(wr.setCell ⟨g0,95,none⟩ (.int .u8 47)).heap[g0]? =some (.cells ((u8s (idL 256)).toArray.setIfInBounds 95 (.int .u8 47)) 261 (0,0)):=jc hR 95 (.int .u8 47) rfl;have aE:=hb.setCell (p:=⟨g0,95,none⟩) (Nat.le_refl _) (.int .u8 47)
   go_wp2_with fail
   refine wp_loop_rounds 3 ?_;rw[rounds_succ]
   go_wp2_with fail
   generalize wr.setCell ⟨g0,95,none⟩ (.int .u8 47)=w2 at nW aE⊢;clear c2 c3 hc hf hR hb;have c0:w2.cell? ⟨G,0,none⟩=some (.string ⟨#[45]⟩):=by rw[aE.cell (p:=⟨G,0,none⟩) hGg];exact Ol.out 0 ⟨#[45]⟩ rfl
   have c1:w2.cell? ⟨G,1,none⟩=some (.string ⟨#[43]⟩):=by rw[aE.cell (p:=⟨G,1,none⟩) hGg];exact Ol.out 1 ⟨#[43]⟩ rfl
   have hc:=rowAt nW 45 (.int .u8 45) (by kernel_rfl);have hf:=bX nW 45;have y7:=jc nW 45 (.int .u8 43) Q0;have bj:=aE.setCell (p:=⟨g0,45,none⟩) (Nat.le_refl _) (.int .u8 43);rw[rounds_succ]
   go_wp2_with fail
   generalize w2.setCell ⟨g0,45,none⟩ (.int .u8 43)=w3 at y7 bj⊢;clear c0 c1 hc hf nW aE;rw[rounds_succ]
   go_wp2_with fail
   go_ret;exact⟨g0,rfl,Hg0.out▸bj,y7⟩
theorem Rf (B b:Nat) (e:Int) (G c:Nat) (w:World) (rH:B<=b) (hr:bM w b 0 1 e .nilIface (.slice (some ⟨G,0,none⟩) 4 c)) (ai:w.ownsRow B 9 1 (.slice (some ⟨G,0,none⟩) 4 c) 4 (rsP.map Value.string)) (hB:B<=w.heap.size):
  Calls Tryz.prog 105 #[.pointer (some ⟨b,0,none⟩)] w fun e' w'=>e'=.returned (.tuple #[])/\lI B b 0 1 e w w':=by
 have cB:=Ih (Fa B b e G c w hr ai);have HR:=Ih hr;have OF:b<w.heap.size:=aZ hr;clear hr ai;go_enter Tryz.func105,Tryz.ntmps105
 go_wp2_with fail
 refine cB.out.mono ?_;rintro e1 w1 ⟨g,rfl,av,pF⟩;have i9:bM w1 b 0 1 e .nilIface (.slice (some ⟨G,0,none⟩) 4 c):=(av.block b OF).trans HR.out;have c3:=rowAt i9 3 .nilIface rfl;have f3:=bX i9 3;have iG:=bM.set i9 3 (.iface 262 (.pointer (some ⟨g,0,none⟩))) (d':=0) (s':=1) (rv':=.iface 262 (.pointer (some ⟨g,0,none⟩))) (ov':=.slice (some ⟨G,0,none⟩) 4 c) (by simp);have ww:=jn.set pF i9 3 (.iface 262 (.pointer (some ⟨g,0,none⟩)));have c4:=rowAt iG 4 (.slice (some ⟨G,0,none⟩) 4 c) rfl;have f4:=bX iG 4;have pB:=bM.set iG 4 (.slice none 0 0) (d':=0) (s':=1) (rv':=.iface 262 (.pointer (some ⟨g,0,none⟩))) (ov':=.slice none 0 0) (by simp);have nw:=jn.set ww iG 4 (.slice none 0 0);have mr:=((av.mono hB).setCell (p:=⟨b,3,none⟩) rH (.iface 262 (.pointer (some ⟨g,0,none⟩)))).setCell (p:=⟨b,4,none⟩) rH (.slice none 0 0);have HF:Hid (lI B b 0 1 e w ((w1.setCell ⟨b,3,none⟩ (.iface 262 (.pointer (some ⟨g,0,none⟩)))).setCell ⟨b,4,none⟩ (.slice none 0 0))):=⟨mr,g,pB,nw⟩;clear i9 iG pB pF ww nw mr
 go_wp2_with fail
 go_end0
 exact⟨rfl,HF.out⟩
theorem Va {w:World} {g:Nat} (h:jn w g) (c:UInt8):w.cell? ⟨g,c.toNat,none⟩=some (.int .u8 ((Lz.gI c).toNat:Int)):=by
 refine rowAt h c.toNat _ ?_;rw[List.getElem?_toArray];unfold u8s brL;have hc:c.toNat<256:=c.toNat_lt;rw[List.getElem?_map,List.getElem?_map,List.getElem?_range hc]
 simp
theorem Q5 {l:List UInt8} {i:Nat} {c:UInt8} (hc:l[i]? =some c) (h:Lz.gI c=c):Lz.bd (l.take (i+1))++l.drop (i+1)=Lz.bd (l.take i)++l.drop i:=by
 obtain⟨hi,rfl⟩:=List.getElem?_eq_some_iff.1 hc;rw[List.take_succ_eq_append_getElem hi,List.drop_eq_getElem_cons hi];unfold Lz.bd;rw[List.map_append,List.append_assoc,List.map_cons,List.map_nil,h];rfl
theorem U8 {l:List UInt8} {i:Nat} {c:UInt8} (hc:l[i]? =some c):(Lz.bd (l.take i)++l.drop i).set i (Lz.gI c)=Lz.bd (l.take (i+1))++l.drop (i+1):=by
 obtain⟨hi,rfl⟩:=List.getElem?_eq_some_iff.1 hc;have hl:(Lz.bd (l.take i)).length=i:=by unfold Lz.bd;rw[List.length_map,List.length_take];omega
 rw[List.set_append_right _ _ (by omega),hl,Nat.sub_self,List.drop_eq_getElem_cons hi,List.set_cons_zero,List.take_succ_eq_append_getElem hi];unfold Lz.bd;rw[List.map_append,List.append_assoc];rfl
def Ni (l:List UInt8) (n H i:Nat) (v:Value) (wr:World):Prop:=(v=.slice none 0 0/\Lz.bd (l.take i)=l.take i)\/(∃g cap,v=.slice (some ⟨g,0,none⟩) n cap/\H<=g/\iV wr g (Lz.bd (l.take i)++l.drop i))
theorem Qc (g:Nat) (s:ByteArray) (hs:s.size<=1000000000) (w:World) (hb:jn w g):Calls Tryz.prog 382 #[.pointer (some ⟨g,0,none⟩),.string s] w (dX (Lz.bd s.data.toList) w):=by
 have HB:=Ih hb;have hgl:g<w.heap.size:=aZ hb;obtain⟨l,hl⟩:∃l,l=s.data.toList:=⟨_,rfl⟩;have jf:l.length=s.size:=by rw[hl];exact ac s
 rw[<-hl];have HL:=Ih hl;have Uh:=Ih jf;clear hb hl jf;go_enter Tryz.func382,Tryz.ntmps382
 go_wp2_with fail
 go_loopw [5,6,7] (fun v k _ wr=>∃i:Nat,k=.int .i64 i/\i<=s.size/\Ni l s.size w.heap.size i v wr/\Below w.heap.size w wr) (fun _ k _ _=>s.size-(intOf k).toNat)
 case atStart=>exact⟨0,rfl,by omega,Or.inl ⟨rfl,rfl⟩,Below.refl _ w⟩
 case round=>
  obtain⟨i,rfl,hi,hV,aC⟩:=hrel;by_cases aL:i<s.size
  ·have aK:(i:Int)<(s.size:Int):=by omega
   have j6:(0:Int)<=(i:Int):=by omega
   obtain⟨c,hc⟩:∃c,c=s[i]:=⟨_,rfl⟩;have WU:(s[i].toNat:Int)=(c.toNat:Int):=by rw[hc]
   have oH:l[i]? =some c:=by rw[HL.out,aB aL,hc]
   have TD:(0:Int)<=(c.toNat:Int)/\(c.toNat:Int)<256:=by have:=c.toNat_lt;omega
   have Wv:∀W,Below w.heap.size w W->W.cell? ⟨g,c.toNat,none⟩=some (.int .u8 ((Lz.gI c).toNat:Int)):=fun W hW=>by rw[hW.cell (p:=⟨g,c.toNat,none⟩) hgl];exact Va HB.out c
   clear hc;by_cases hu:Lz.gI c=c
   ·have bH:=Wv wr aC;rw[hu]at bH
    have HN:Hid (∀v,Ni l s.size w.heap.size i v wr->Ni l s.size w.heap.size (i+1) v wr):=by
     show ∀v,_;intro v hV;rcases hV with⟨h1,h2⟩|⟨g1,cap,h1,h2,h3⟩
     ·refine Or.inl ⟨h1,?_⟩;obtain⟨pu,rfl⟩:=List.getElem?_eq_some_iff.1 oH;rw[List.take_succ_eq_append_getElem pu];unfold Lz.bd at h2⊢;rw[List.map_append,h2,List.map_cons,hu];rfl
     ·exact Or.inr ⟨g1,cap,h1,h2,by rw[Q5 oH hu];exact h3⟩
    have HV:=Ih hV;clear hV Wv oH hu
    go_wp2_with fail
    go_roundw
    case rel=>exact⟨i+1,by go_num,by omega,HN.out _ HV.out,aC⟩
    case measure=>simp[intOf];omega
   ·have jg:=U8 oH;obtain⟨d,hd⟩:∃d,d=Lz.gI c:=⟨_,rfl⟩;rw[<-hd]at hu Wv jg
    have du:((d.toNat:Int) != (c.toNat:Int))=true:=by
     rw[bne_iff_ne];intro e;exact hu (UInt8.toNat_inj.1 (by omega))
    have KN:=Ih jg;have bH:=Wv wr aC;clear hd hu jg oH;rcases hV with⟨rfl,h2⟩|⟨g1,cap,rfl,h2,h3⟩
    ·have rL:=Lib.run_eql_slice_nil (P:=Tryz.prog) wr 93 5 none 0 0 0 0 Tryz.underlying93;have kb:=run_bytes_of_string (P:=Tryz.prog) wr 9 93 5 s Tryz.underlying9 Tryz.underlying93 Tryz.underlying5;have j7:=qA wr s (grownCap wr s.size 0 5) 5;obtain⟨cap,jD⟩:∃cap,cap=grownCap wr s.size 0 5:=⟨_,rfl⟩;rw[<-jD]at kb j7;clear jD;rw[<-HL.out,show l=Lz.bd (l.take i)++l.drop i by rw[h2,List.take_append_drop]]at j7;have GH:Below w.heap.size w (wr.alloc (.cells (bytesRow s cap) 5 ((bytesRow s cap).size,(bytesRow s cap).size+1))).drew:=(aC.alloc aC.size _).drew;obtain⟨W5,Ph⟩:∃W,W=wr.drew.alloc (.cells (bytesRow s cap) 5 ((bytesRow s cap).size,(bytesRow s cap).size+1)):=⟨_,rfl⟩;have GH:Below w.heap.size w W5:=by rw[Ph];exact GH
     have j7:iV W5 wr.heap.size (Lz.bd (l.take i)++l.drop i):=by rw[Ph];exact j7
     rw[<-Ph]at kb;obtain⟨x0,kN⟩:∃x,(Lz.bd (l.take i)++l.drop i)[i]? =some x:=⟨_,List.getElem?_eq_getElem (by rw[h2,List.take_append_drop,Uh.out];exact aL)⟩;obtain⟨hc5,hf5⟩:=j7 i x0 kN;have abR:=Wv W5 GH;have HR:=Ih (j7.set i d);rw[KN.out]at HR;have HB6:=Ih (GH.setCell (p:=⟨wr.heap.size,i,none⟩) aC.size (.int .u8 (d.toNat:Int)));have hws:=aC.size;clear j7 GH Ph h2 Wv kN
     go_wp2_with fail
     go_roundw
     case rel=>exact⟨i+1,by go_num,by omega,Or.inr ⟨wr.heap.size,cap,rfl,hws,HR.out⟩,HB6.out⟩
     case measure=>simp[intOf];omega
    ·have rL:=Lib.run_eql_slice_nil (P:=Tryz.prog) wr 93 5 (some ⟨g1,0,none⟩) s.size cap 0 0 Tryz.underlying93
     have pu:i<(Lz.bd (l.take i)++l.drop i).length:=by
      unfold Lz.bd;rw[List.length_append,List.length_map,List.length_take,List.length_drop,Uh.out];omega
     obtain⟨x0,kN⟩:∃x,(Lz.bd (l.take i)++l.drop i)[i]? =some x:=⟨_,List.getElem?_eq_getElem pu⟩;obtain⟨hc5,hf5⟩:=h3 i x0 kN;have HR:=Ih (h3.set i d);rw[KN.out]at HR;have HB6:=Ih (aC.setCell (p:=⟨g1,i,none⟩) h2 (.int .u8 (d.toNat:Int)));clear h3 Wv pu kN
     go_wp2_with fail
     go_roundw
     case rel=>exact⟨i+1,by go_num,by omega,Or.inr ⟨g1,cap,rfl,h2,HR.out⟩,HB6.out⟩
     case measure=>simp[intOf];omega
  ·obtain rfl:i=s.size:=by omega
   have gu:l.take s.size=l:=List.take_of_length_le (by rw[Uh.out];exact Nat.le_refl _);have AO:l.drop s.size=[]:=List.drop_eq_nil_iff.2 (by rw[Uh.out];exact Nat.le_refl _);have aK:¬((s.size:Int)<(s.size:Int)):=by omega
   rcases hV with⟨rfl,h2⟩|⟨g1,cap,rfl,h2,h3⟩
   ·have rL:=Lib.run_eql_slice_nil (P:=Tryz.prog) wr 93 5 none 0 0 0 0 Tryz.underlying93;have HF:Hid (s.data.toList=Lz.bd l):=by show _=_;rw[<-HL.out,<-gu,h2,gu]
    clear gu AO h2
    go_wp2_with fail
    go_ret;exact⟨s,rfl,HF,aC⟩
   ·have rL:=Lib.run_eql_slice_nil (P:=Tryz.prog) wr 93 5 (some ⟨g1,0,none⟩) s.size cap 0 0 Tryz.underlying93;rw[gu,AO,List.append_nil]at h3;have Dt:(Lz.bd l).length=s.size:=by unfold Lz.bd;rw[List.length_map,Uh.out]
    have kL:=run_convert_bytes_back (P:=Tryz.prog) wr 93 9 5 ⟨g1,0,none⟩ cap (Lz.bd l) Tryz.underlying93 Tryz.underlying5 Tryz.underlying9 (fun j hj=>by rw[bD];exact(h3 j _ (List.getElem?_eq_getElem hj)).1);rw[Dt]at kL;clear gu AO h3 Dt
    go_wp2_with fail
    go_ret;exact⟨_,rfl,Ih rfl,aC⟩
theorem Ja (B b G c:Nat) (s:ByteArray) (hs:s.size<=1000000000) (w:World) (rH:B<=b) (hr:bM w b 0 0 0 .nilIface (.slice (some ⟨G,0,none⟩) 4 c)) (ai:w.ownsRow B 9 1 (.slice (some ⟨G,0,none⟩) 4 c) 4 (rsP.map Value.string)) (hB:B<=w.heap.size):
  Calls Tryz.prog 64 #[.pointer (some ⟨b,0,none⟩),.string s] w fun e w'=>∃u:ByteArray,e=.returned (.string u)/\Hid (u.data.toList=Lz.bd s.data.toList)/\Below B w w':=by
 have de:=ai.kept (df w ⟨b,1,none⟩ (.int .i32 1)) (.inr (by
  simp[Value.ownBlock]
  intro e;rcases ai.2 with⟨h,_⟩|⟨g1,cap,dx,h,_,hh,_⟩
  ·cases h
  ·injection h with h _ _;injection h with h;injection h with h1 _ _
   have h2:w.heap[b]? =_:=hr;rw[<-e,h1,hh]at h2;injection h2 with h2
   injection h2 with _ h3 _
   exact absurd h3 (by decide)))
 have cD:=Ih (doP B b 0 .nilIface (.slice (some ⟨G,0,none⟩) 4 c) w rH hr (fun W hW hWe=>by
  have iG:bM W b 0 1 0 .nilIface (.slice (some ⟨G,0,none⟩) 4 c):=by rw[hWe];exact bM.set hr 1 (.int .i32 1) (by simp)
  rw[<-hWe]at de;exact Rf B b 0 G c W rH iG de (Nat.le_trans hB hW.size)))
 have hmf:∀(fn:Fn) (first cap:Array Value) (w:World),(Instr.makeFunc fn first cap).run Tryz.prog w=.ok (.func fn first cap) w:=fun _ _ _ _=>rfl;clear ai de hr;go_enter Tryz.func64,Tryz.ntmps64
 go_wp2_with fail
 refine cD.out.mono ?_;rintro e w1 ⟨rfl,av,g,i9,pF⟩;have c3:=rowAt i9 3 (.iface 262 (.pointer (some ⟨g,0,none⟩))) rfl;have nu:∀w,(nilAhead 507 262 (.pointer (some ⟨g,0,none⟩)) "Replace").run Tryz.prog w=.ok (some false) w:=fun _=>by kernel_rfl
 have mU:∀w,(Go.method 507 262 (.pointer (some ⟨g,0,none⟩)) "Replace").run Tryz.prog w=.ok (382,.pointer (some ⟨g,0,none⟩)) w:=fun _=>by kernel_rfl
 have cR:=Ih (Qc g s hs w1 pF);clear i9 pF
 go_wp2_with fail
 refine cR.out.mono ?_;rintro e w2 ⟨u,rfl,hu,aE⟩
 go_wp2_with fail
 go_ret;exact⟨u,rfl,hu,av.trans (aE.mono (Nat.le_trans hB av.size))⟩
theorem rC (s:ByteArray) (hs:s.size<=1000000000) (w:World):Calls Tryz.prog 36 #[.string s] w (dX (Lz.bd s.data.toList) w):=by
 have bH:∀(j:Nat) (x:Value),(rsP.map Value.string)[j]? =some x->(w.alloc (.cells #[.string ⟨#[45]⟩,.string ⟨#[43]⟩,.string ⟨#[95]⟩,.string ⟨#[47]⟩] 9)).cell? ((⟨w.heap.size,0,none⟩:Addr).add j)=some x:=by
  intro j x hj;rw[bD,World.cell?_alloc_mark];rw[<-Array.getElem?_toList];exact hj
 have cN:=Ih (Ju w.heap.size ⟨w.heap.size,0,none⟩ 4 _ (by simp) bH);clear bH;go_enter Tryz.func36,Tryz.ntmps36
 go_wp2_with fail
 refine cN.out.mono ?_;rintro e w2 ⟨b,G,c,rfl,rH,hr,ai,aE⟩;have Ot:Below w.heap.size w w2:=((Below.refl _ w).alloc (Nat.le_refl _) _).trans (aE.mono (by simp));have cR:=Ih (Ja w.heap.size b G c s hs w2 rH hr ai Ot.size);clear hr ai
 go_wp2_with fail
 refine cR.out.mono ?_;rintro e w3 ⟨v,rfl,hv,bj⟩
 go_wp2_with fail
 go_ret;exact⟨v,rfl,hv,Ot.trans bj⟩
def S0 (o:Option Lz.Src) (w:World) (e:Ending) (w':World):Prop:=
 ∃x:ah,e=.returned (.tuple #[x.val,.bool o.isSome])/\Hid (∀y,o=some y->x.src=y)/\Below w.heap.size w w'
def um (sch path nm:List UInt8) (port:Int) (gg:Bool):Option Lz.Src:=
 match Lz.nj nm with
 | none=>none
 | some (wild,host)=>if gg then some ⟨3,[],0,sch,host,wild,port,path⟩else none
theorem Ah {sch path r:List UInt8} (h:Lib.index r [58]= -1):Lz.fS sch path r=um sch path r (-1) (path.all Lz.dr):=by
 unfold Lz.fS um;rw[Lz.v9 r [58] h,Lz.AW];rfl
theorem BU {sch path r:List UInt8} {k:Nat} (h:Lib.index r [58]=k) (p:Int) (hp:∀m,Lz.eA (r.drop (k+1))=some m->p=m):
  Lz.fS sch path r=um sch path (r.take k) p (path.all Lz.dr&&(Lz.eA (r.drop (k+1))).isSome):=by
 have e:Lib.cut r [58]=(r.take k,r.drop (k+1),true):=by
  unfold Lib.cut;rw[h,if_pos (by omega)]
  simp
 unfold Lz.fS um;rw[e,Lz.AW]
 dsimp only
 cases Lz.nj (r.take k)with
 | none=>rfl
 | some q=>
   cases hq:Lz.eA (r.drop (k+1))with
   | none=>simp
   | some m=>simp[hp m hq]
def YV (s:ByteArray) (w:World) (v b:Value) (wx:World):Prop:=
 ∃(nm:ByteArray) (gg:Bool) (y:ah),v=.string nm/\b=.bool gg/\nm.size<=1048576/\ij w wx y/\Hid (Lz.cq s.data.toList=um y.scheme.data.toList y.path.data.toList nm.data.toList y.port gg/\y={dV with scheme:=y.scheme,path:=y.path,port:=y.port})
theorem mN {w:World} {R:Nat} {cs:Array Value} {t:TypeId} (h:w.heap[R]? =some (.cells cs t (0,0))) {n:Nat} (hn:cs.size=n) (k:Nat) (hk:k<n):w.cell? ⟨R,k,none⟩=some (cs.getD k undef)/\w.frozen? ⟨R,k,none⟩=false:=by
 refine⟨?_,by simp[World.frozen?,h]⟩;rw[cell_of_row w R k _ _ _ h];have:k<cs.size:=by omega
 simp[Array.getD,this]
theorem abg (cs:Array Value) (h:cs.size=8) (a b c d e f g i:Value):(((((((cs.setIfInBounds 0 a).setIfInBounds 1 b).setIfInBounds 2 c).setIfInBounds 3 d).setIfInBounds 4 e).setIfInBounds 5 f).setIfInBounds 6 g).setIfInBounds 7 i= #[a,b,c,d,e,f,g,i]:=by
 apply Array.ext_getElem?
 intro j;by_cases hj:j<8
 ·obtain rfl|rfl|rfl|rfl|rfl|rfl|rfl|rfl:j=0\/j=1\/j=2\/j=3\/j=4\/j=5\/j=6\/j=7:=by omega
  all_goals simp[h]
 ·rw[Array.getElem?_eq_none (by simp[h];omega),Array.getElem?_eq_none (by simp;omega)]
theorem heap_drew {w:World} {R:Nat} {o:Option Obj} (h:w.heap[R]? =o):w.drew.heap[R]? =o:=h
theorem row8 {w:World} {R:Nat} {cs:Array Value} {t:TypeId} {fr:Nat×Nat} (h:w.heap[R]? =some (.cells cs t fr)) (hn:cs.size=8) (a b c d e f g i:Value):
  ((((((((w.setCell ⟨R,0,none⟩ a).setCell ⟨R,1,none⟩ b).setCell ⟨R,2,none⟩ c).setCell ⟨R,3,none⟩ d).setCell ⟨R,4,none⟩ e).setCell ⟨R,5,none⟩ f).setCell ⟨R,6,none⟩ g).setCell ⟨R,7,none⟩ i).heap[R]? =some (.cells #[a,b,c,d,e,f,g,i] t fr):=by
 rw[<-abg cs hn a b c d e f g i];exact cu (cu (cu (cu (cu (cu (cu (cu h 0 a) 1 b) 2 c) 3 d) 4 e) 5 f) 6 g) 7 i
theorem UJ {B:Nat} {w0 w:World} {R:Nat} (h:Below B w0 w) (hR:B<=R) (a b c d e f g i:Value):
  Below B w0 ((((((((w.setCell ⟨R,0,none⟩ a).setCell ⟨R,1,none⟩ b).setCell ⟨R,2,none⟩ c).setCell ⟨R,3,none⟩ d).setCell ⟨R,4,none⟩ e).setCell ⟨R,5,none⟩ f).setCell ⟨R,6,none⟩ g).setCell ⟨R,7,none⟩ i):=
 (((((((h.setCell (p:=⟨R,0,none⟩) hR a).setCell (p:=⟨R,1,none⟩) hR b).setCell (p:=⟨R,2,none⟩) hR c).setCell (p:=⟨R,3,none⟩) hR d).setCell (p:=⟨R,4,none⟩) hR e).setCell (p:=⟨R,5,none⟩) hR f).setCell (p:=⟨R,6,none⟩) hR g).setCell (p:=⟨R,7,none⟩) hR i
theorem E2 (s:ByteArray) (hs:s.size<=1048576) (w:World):Calls Tryz.prog 108 #[.string s] w (S0 (Lz.cq s.data.toList) w):=by
 go_enter Tryz.func108,Tryz.ntmps108
 have TT:ij w ((w.alloc (.cells #[.int .i64 0,.string ⟨#[]⟩,.int .i64 0,.string ⟨#[]⟩,.string ⟨#[]⟩,.bool false,.int .i64 0,.string ⟨#[]⟩] 63)).alloc (.cells dV.cells 63)) dV:=by
  have kN:Below w.heap.size w ((w.alloc (.cells #[.int .i64 0,.string ⟨#[]⟩,.int .i64 0,.string ⟨#[]⟩,.string ⟨#[]⟩,.bool false,.int .i64 0,.string ⟨#[]⟩] 63)).alloc (.cells dV.cells 63)):=((Below.refl _ w).alloc (Nat.le_refl _) _).alloc (by simp) _;obtain⟨nX,mf⟩:=jG (Below.refl _ ((w.alloc (.cells #[.int .i64 0,.string ⟨#[]⟩,.int .i64 0,.string ⟨#[]⟩,.string ⟨#[]⟩,.bool false,.int .i64 0,.string ⟨#[]⟩] 63)).alloc (.cells dV.cells 63)));exact⟨⟨_,rfl,rfl,nX⟩,mf,kN⟩
 have pu:=Lib.index_le s.data.toList [58,47,47];have SF:=Lib.index_ge s.data.toList [58,47,47];have K7:=Lib.index_room s.data.toList [58,47,47];rw[ac]at pu K7;have cF:=Ih (uU s ⟨#[58,47,47]⟩ hs (by decide) (by simp));generalize hi:Lib.index s.data.toList (ByteArray.data ⟨#[58,47,47]⟩).toList=i at cF;have Ln:Lib.index s.data.toList [58,47,47]=i:=hi;rw[Ln]at pu SF K7;have Hi:=Ih Ln;clear hi Ln
 go_wp2_with fail
 refine(cF.out _).mono ?_;rintro e w1 ⟨rfl,rfl⟩
 go_upto_if 12 with fail
 go_cut [0] (fun s0 wx=>Tn s w s0 wx)
 case first=>
  clear cF;by_cases j6:0<=i
  ·obtain⟨k,rfl⟩:∃k:Nat,i=k:=⟨i.toNat,by omega⟩;have hk:k+3<=s.size:=by have:=K7 j6;simp at this;omega
   have TW:(k:Int)+3<=s.size:=by omega
   have hz:=aV s 0 k;have cS:=Ih (lv (s.extract 0 k) (by omega));have cL:=Ih (jI (s.extract 0 k) (by omega));generalize hsb:Lz.bK (s.extract 0 k).data.toList=sb at cS;have Sz:=Ih hsb;clear hsb hz K7 SF
   have HC:Hid (Lib.cut s.data.toList [58,47,47]=(s.data.toList.take k,s.data.toList.drop (k+3),true)):=by
    show _=_;unfold Lib.cut;rw[Hi.out,if_pos (by omega)]
    simp
   cases sb
   ·obtain⟨⟨cs,is,Dq,jq⟩,mf,it⟩:=TT;have wG:_=some (Obj.cells #[.int .i64 3,.string ⟨#[]⟩,.int .i64 0,.string ⟨#[]⟩,.string ⟨#[]⟩,.bool false,.int .i64 (-1),.string ⟨#[]⟩] 63 (0,0)):=mf;clear mf
    go_wp2_with (first |(go_at_call 107;(with_reducible refine(cS.out _).mono ?_);rintro e w2 ⟨rfl,rfl⟩)|(refine wpList_load_row rfl 63 _ rfl (w.heap.size+1) rfl 63 _ (0,0) _ wG Tryz.underlying63 rfl nH ?_)|(refine a9 rfl _ _ rfl w.heap.size rfl rfl _ jq is ?_))
    refine bodyPost_ret (be (u:=3) rfl _ _ w.heap.size dV (0,0) rfl (setRow_heap _ _ _ _ _ _ jq)) rfl ⟨dV,?_,?_,aR it (Nat.le_refl _)⟩
    all_goals
     have hn:Lz.cq s.data.toList=none:=by
      unfold Lz.cq;rw[HC.out];have h2:Lz.bK (s.data.toList.take k)=false:=by rw[<-Sz.out,dI]
      simp only[h2,if_true];rfl
     rw[hn]
    ·rfl
    ·exact Ih (fun y h=>by cases h)
   ·go_wp2_with fail
    refine(cS.out _).mono ?_;rintro e w2 ⟨rfl,rfl⟩
    go_wp2_with fail
    (with_reducible refine(cL.out _).mono ?_)
    rintro e w2 ⟨u,rfl,hu,aE⟩;have rI:=TT.call aE;have nt:=rI.src;have c3:=nt.cell 3;have f3:=nt.free 3;simp only[ah.cells]at c3
    simp at c3
    have sS:=nt.store (y:={dV with scheme:=u}) 3 (.string u) (by rfl);have AJ:=rI.into ((Below.refl (w.heap.size+1) w2).setCell (p:=⟨w.heap.size+1,3,none⟩) (Nat.le_refl _) (.string u)) sS;have hz3:=aV s (k+3) s.size;clear nt sS aE
    go_wp2_with fail
    go_meet;refine⟨s.extract (k+3) s.size,{dV with scheme:=u},rfl,by omega,AJ,?_,rfl⟩;unfold Lz.cq;rw[HC.out];have h2:Lz.bK (s.data.toList.take k)=true:=by rw[<-Sz.out,dI]
    simp only[h2,if_true];show _=Lz.gZ u.data.toList _;rw[hu.out,dI,fZ]
  ·have AA:i= -1:=by omega
   have HC:Hid (Lib.cut s.data.toList [58,47,47]=(s.data.toList,[],false)):=by
    show _=_;exact Lz.v9 _ _ (by rw[Hi.out];exact AA)
   have Lo:i<0:=by omega
   clear K7 SF AA
   go_wp2_with fail
   go_meet;refine⟨s,dV,rfl,hs,TT,?_,rfl⟩;unfold Lz.cq;rw[HC.out];rfl
 case rest=>
  clear TT cF Hi pu SF K7;obtain⟨rest,x,rfl,AC,xC,HS⟩:=hcut;have cI:=Ih (uU rest ⟨#[47]⟩ AC (by decide) (by simp) wc);have hix:Lib.index rest.data.toList (ByteArray.data ⟨#[47]⟩).toList=Lib.indexByte rest.data.toList 47:=Lz.Kw _ _;rw[hix]at cI;have pu:=pK rest.data.toList 47;rw[ac]at pu;clear hix;generalize hi:Lib.indexByte rest.data.toList 47=i at cI pu;have Hi:=Ih hi;clear hi
  go_wp2_with fail
  refine(cI.out).mono ?_;rintro e w2 ⟨rfl,rfl⟩
  go_upto_if 31 with fail
  go_cut [0] (fun s0 wx=>S8 s w s0 wx)
  case first=>
   by_cases j6:0<=i
   ·obtain⟨k,rfl⟩:∃k:Nat,i=k:=⟨i.toNat,by omega⟩;have mf:=xC.src;have c7:=mf.cell 7;have f7:=mf.free 7;simp only[ah.cells]at c7
    simp at c7
    have nt:=mf.store (y:={x with path:=rest.extract k rest.size}) 7 (.string (rest.extract k rest.size)) (by rfl);have rI:=xC.into ((Below.refl (w.heap.size+1) wc).setCell (p:=⟨w.heap.size+1,7,none⟩) (Nat.le_refl _) (.string (rest.extract k rest.size))) nt;clear nt mf cI
    go_wp2_with fail
    go_meet;refine⟨rest.extract 0 k,{x with path:=rest.extract k rest.size},rfl,Nat.le_trans (aV _ _ _) AC,Nat.le_trans (aV _ _ _) AC,rI,?_,by rw[HS.out.2]⟩;rw[HS.out.1];unfold Lz.gZ;rw[Hi.out,if_pos (by omega)];show _=Lz.fS x.scheme.data.toList (rest.extract k rest.size).data.toList _;rw[fZ,dI];rfl
   ·have Lo:i<0:=by omega
    clear cI
    go_wp2_with fail
    go_meet;have h2:=HS.out.2;refine⟨rest,x,rfl,AC,by rw[h2];exact Nat.zero_le _,xC,?_,by rw[h2]⟩;rw[HS.out.1];unfold Lz.gZ;rw[Hi.out,if_neg (by omega)];rw[h2];rfl
  case rest=>
   clear xC Hi cI pu HS AC;obtain⟨r,y,rfl,XZ,hyz,rI,HQ⟩:=hcut;have nt:=rI.src;have c7:=nt.cell 7;simp only[ah.cells]at c7
   simp at c7
   have cP:=Ih (Nx y.path (by omega) wc);generalize O0:y.path.data.toList.all Lz.dr=gp at cP;have Tv:=Ih O0;have cI:=Ih (uU r ⟨#[58]⟩ XZ (by decide) (by simp) wc);have pu:=Lib.index_le r.data.toList [58];have K7:=Lib.index_room r.data.toList [58];rw[ac]at pu K7;generalize hi:Lib.index r.data.toList (ByteArray.data ⟨#[58]⟩).toList=i at cI;have Ln:Lib.index r.data.toList [58]=i:=hi;rw[Ln]at pu K7;have SF:=Lib.index_ge r.data.toList [58];rw[Ln]at SF;have Hi:=Ih Ln;clear hi Ln O0 nt
   go_wp2_with fail
   (with_reducible refine(cP.out).mono ?_)
   rintro e w2 ⟨rfl,rfl⟩
   go_wp2_with fail
   (with_reducible refine(cI.out).mono ?_)
   rintro e w2 ⟨rfl,rfl⟩
   go_upto_if 45 with fail
   go_cut [0,6] (fun s0 s6 wx=>YV s w s0 s6 wx)
   case first=>
    clear cP cI;by_cases j6:0<=i
    ·obtain⟨k,rfl⟩:∃k:Nat,i=k:=⟨i.toNat,by omega⟩;have hk:k+1<=r.size:=by have:=K7 j6;simp at this;omega
     have tM:(k:Int)+1<=r.size:=by omega
     have hz:=aV r (k+1) r.size;have eo:=aV r 0 k;have cO:=Ih (FY (r.extract (k+1) r.size) (by omega) wc);clear K7 SF;have nt:=rI.src;have c6:=nt.cell 6;have f6:=nt.free 6;simp only[ah.cells]at c6
     simp at c6
     cases gp
     all_goals
      go_wp2_with fail
      (with_reducible refine(cO.out).mono ?_)
      rintro e w4 ⟨p,rfl,hp,rfl⟩;generalize TY:Lz.eA (r.extract (k+1) r.size).data.toList=po at hp;have Hpo:=Ih TY;clear TY;obtain⟨pb,xB⟩:∃pb,pb=po.isSome:=⟨_,rfl⟩;rw[<-xB];have Hpb:=Ih xB;clear xB;have sS:=nt.store (y:={y with port:=p}) 6 (.int .i64 p) (by rfl);have AJ:=rI.into ((Below.refl (w.heap.size+1) wc).setCell (p:=⟨w.heap.size+1,6,none⟩) (Nat.le_refl _) (.int .i64 p)) sS;clear sS
      go_wp2_with fail
      go_meet;refine⟨r.extract 0 k,_,{y with port:=p},rfl,rfl,by omega,AJ,?_,by rw[HQ.out.2]⟩;rw[HQ.out.1,BU Hi.out p (by rw[<-fZ,Hpo.out];exact hp.out),Tv.out,<-fZ,Hpo.out,<-Hpb.out,dI];rfl
    ·have Hin:=Ih (show i= -1 by omega);have Lo:i<0:=by omega
     clear K7 SF
     go_wp2_with fail
     go_meet;have h2:=HQ.out.2;refine⟨r,gp,y,rfl,rfl,XZ,rI,?_,by rw[h2]⟩;rw[HQ.out.1,Ah (by rw[Hi.out];exact Hin.out),Tv.out];rw[h2];rfl
   case rest=>
    clear rI cP cI Hi pu SF K7 Tv HQ c7;obtain⟨nm,gg,y,rfl,rfl,T3,AJ,HQ⟩:=hcut;have sS:=AJ.src;have c5:=sS.cell 5;have f5:=sS.free 5;simp only[ah.cells]at c5
    simp at c5
    by_cases eL:nm.data.toList=[42]
    ·have hst:=nU true (decide_eq_true eL);have hT4:=sS.store (y:={y with wild:=true}) 5 (.bool true) (by rfl);have TJ:=AJ.into ((Below.refl (w.heap.size+1) wc).setCell (p:=⟨w.heap.size+1,5,none⟩) (Nat.le_refl _) (.bool true)) hT4
     have HF:Hid (Lz.cq s.data.toList=if gg then some (ah.src {y with wild:=true})else none):=by
      show _=_;rw[HQ.out.1];unfold um Lz.nj;rw[if_pos eL]
      dsimp only
      rw[HQ.out.2];rfl
     obtain⟨⟨cs,is,Dq,jq⟩,VQ,it⟩:=TJ;clear sS hT4 eL Dq AJ;have wG:_=some (Obj.cells #[.int .i64 y.kind,.string y.text,.int .i64 y.bits,.string y.scheme,.string y.host,.bool true,.int .i64 y.port,.string y.path] 63 (0,0)):=VQ;clear VQ
     go_wp2_with (first |(refine wpList_load_row rfl 63 _ rfl (w.heap.size+1) rfl 63 _ (0,0) _ wG Tryz.underlying63 rfl nH ?_)|(refine a9 rfl _ _ rfl w.heap.size rfl rfl _ jq is ?_))
     refine bodyPost_ret (be (u:=3) rfl _ _ w.heap.size {y with wild:=true} (0,0) rfl (setRow_heap _ _ _ _ _ _ jq)) rfl ⟨{y with wild:=true},?_,?_,aR it (Nat.le_refl _)⟩
     ·rw[HF.out];cases gg<;>rfl
     ·refine Ih (fun z hz=>?_);rw[HF.out]at hz;cases gg
      ·cases hz
      ·exact Option.some.inj hz
    ·have hst:=nU false (decide_eq_false eL);have aap:=Ih eL;clear eL
     have ix:Lib.hasPrefix nm.data.toList [42,46]=(decide (1<(nm.size:Int))&&((nm.extract 0 2).toList==[42,46])):=by
      rw[Lib.toList_data,dI,show(List.take 2 nm.data.toList==[42,46])=Lib.hasPrefix nm.data.toList [42,46]from Lz.take_prefix [42,46] nm.data.toList];by_cases h:1<(nm.size:Int)
      ·rw[decide_eq_true h];rfl
      ·rw[Lz.lP (by rw[ac];simp;omega),decide_eq_false h];rfl
     generalize hwb:Lib.hasPrefix nm.data.toList [42,46]=wb at ix;have Hwb:=Ih hwb;clear hwb
     go_upto_region 22 with fail
     go_cut [74] (fun s74 wx=>s74=.bool wb/\ij w wx y)
     case first=>
      cases wb
      ·have iv:(nm.size:Int)<=1\/(1<(nm.size:Int)/\((nm.extract 0 2).toList==[42,46])=false):=by
        by_cases h:1<(nm.size:Int)
        ·rw[decide_eq_true h]at ix;exact Or.inr ⟨h,by rw[<-Bool.true_and (_==_)];exact ix.symm⟩
        ·exact Or.inl (by omega)
       clear ix;rcases iv with h1|⟨h1,h2⟩
       all_goals
        go_wp2_with fail
        go_meet;exact⟨rfl,AJ⟩
      ·have iv:1<(nm.size:Int)/\((nm.extract 0 2).toList==[42,46])=true:=by
        have h:=ix.symm;rw[Bool.and_eq_true,decide_eq_true_eq]at h;exact h
       obtain⟨h1,h2⟩:=iv;clear ix
       go_wp2_with fail
       go_meet;exact⟨rfl,AJ⟩
     case rest=>
      clear ix AJ sS c5 f5;obtain⟨rfl,AJ⟩:=hcut;have sS:=AJ.src;have c5:=sS.cell 5;have f5:=sS.free 5;simp only[ah.cells]at c5
      simp at c5
      go_upto_if 74 with fail
      go_cut [0] (fun s0 wx=>∃nn:ByteArray,s0=.string nn/\nn.size<=1048576/\ij w wx {y with wild:=wb}/\Hid (nn.data.toList=Lib.trimPrefix nm.data.toList [42,46]))
      case first=>
       cases wb
       ·go_wp2_with fail
        go_meet;refine⟨nm,rfl,T3,?_,?_⟩
        ·have:({y with wild:=false}:ah)=y:=by rw[HQ.out.2];rfl
         rw[this];exact AJ
        ·show _=_;unfold Lib.trimPrefix;rw[Hwb.out];rfl
       ·have hT4:=sS.store (y:={y with wild:=true}) 5 (.bool true) (by rfl);have TJ:=AJ.into ((Below.refl (w.heap.size+1) wc).setCell (p:=⟨w.heap.size+1,5,none⟩) (Nat.le_refl _) (.bool true)) hT4
        have h2:(2:Int)<=nm.size:=by
         have h:=Hwb.out;by_cases hl:nm.data.toList.length<([42,46]:List UInt8).length
         ·rw[Lz.lP hl]at h;cases h
         ·rw[ac]at hl;simp at hl;omega
        clear sS hT4 AJ
        go_wp2_with fail
        go_meet;refine⟨nm.extract 2 nm.size,rfl,Nat.le_trans (aV _ _ _) T3,TJ,?_⟩;show _=_;unfold Lib.trimPrefix;rw[Hwb.out,if_pos rfl,fZ];rfl
      case rest=>
       clear AJ sS c5 f5 hst;obtain⟨nn,rfl,ac2,Po,Hnn⟩:=hcut;have VQ:=Po.src;have cL:=Ih (jI nn (by omega) wc)
       go_wp2_with fail
       refine(cL.out).mono ?_;rintro e w5 ⟨u,rfl,hu,bv⟩;have ZK:=Po.call bv;have Xh:=ZK.src;have c4:=Xh.cell 4;have f4:=Xh.free 4;simp only[ah.cells]at c4
       simp at c4
       have AT:=Xh.store (y:={y with wild:=wb,host:=u}) 4 (.string u) (by rfl);have IK:=ZK.into ((Below.refl (w.heap.size+1) w5).setCell (p:=⟨w.heap.size+1,4,none⟩) (Nat.le_refl _) (.string u)) AT;have cN:=Ih (fun w=>zL nn (by omega) w);generalize Li:Lz.eF nn.data.toList=nb at cN;have Hnb:=Ih Li;clear Li VQ Xh AT Po ZK bv cL
       go_upto_region 26 with fail
       have OR:=IK.below;obtain⟨⟨cs,is,Dq,Lm⟩,AT,_⟩:=IK;generalize w5.setCell ⟨w.heap.size+1,4,none⟩ (.string u)=w7 at OR Lm AT⊢;have wG:w7.drew.heap[w.heap.size+1]? =some (Obj.cells #[.int .i64 y.kind,.string y.text,.int .i64 y.bits,.string y.scheme,.string u,.bool wb,.int .i64 y.port,.string y.path] 63 (0,0)):=AT;have hRl:w7.drew.heap[w.heap.size]? =some (Obj.cells cs 63 (0,0)):=Lm;have hx8:Below w.heap.size w w7.drew:=OR.drew;have k0:=AT.cell 0;have k1:=AT.cell 1;have k2:=AT.cell 2;have k3:=AT.cell 3;have k4:=AT.cell 4;have k5:=AT.cell 5;have k6:=AT.cell 6;have k7:=AT.cell 7;simp only[ah.cells]at k0 k1 k2 k3 k4 k5 k6 k7
       simp at k0 k1 k2 k3 k4 k5 k6 k7
       have r0:=mN Lm is 0 (by decide);have r1:=mN Lm is 1 (by decide);have r2:=mN Lm is 2 (by decide);have r3:=mN Lm is 3 (by decide);have r4:=mN Lm is 4 (by decide);have r5:=mN Lm is 5 (by decide);have r6:=mN Lm is 6 (by decide);have r7:=mN Lm is 7 (by decide);obtain⟨r0,q0⟩:=r0;obtain⟨r1,q1⟩:=r1;obtain⟨r2,q2⟩:=r2;obtain⟨r3,q3⟩:=r3;obtain⟨r4,q4⟩:=r4;obtain⟨r5,q5⟩:=r5;obtain⟨r6,q6⟩:=r6;obtain⟨r7,q7⟩:=r7;clear AT Dq f4 c4 wG hRl;have hR8:=row8 Lm is (.int .i64 y.kind) (.string y.text) (.int .i64 y.bits) (.string y.scheme) (.string u) (.bool wb) (.int .i64 y.port) (.string y.path);have R4:=UJ OR (Nat.le_refl _) (.int .i64 y.kind) (.string y.text) (.int .i64 y.bits) (.string y.scheme) (.string u) (.bool wb) (.int .i64 y.port) (.string y.path);have HR8:=Ih hR8;have HX9:=Ih R4;clear hR8 R4 hx8 OR Lm
       have HP:Hid (Lz.nj nm.data.toList=if nb then some (wb,Lz.low nn.data.toList)else none):=by
        show _=_;unfold Lz.nj;rw[if_neg aap.out,<-Hnn.out,Hnb.out,Hwb.out]
       have HF:Hid (Lz.cq s.data.toList=if nb&&gg then some (ah.src {y with wild:=wb,host:=u})else none):=by
        show _=_;rw[HQ.out.1];unfold um;rw[HP.out];cases nb
        ·rfl
        ·simp only[if_true,Bool.true_and];rw[HQ.out.2,<-hu.out];rfl
       clear HP HQ;cases gg
       ·go_region
        go_wp2_with fail
        refine bodyPost_ret (be (u:=3) rfl _ _ w.heap.size {y with wild:=wb,host:=u} (0,0) rfl (heap_drew HR8.out)) rfl ⟨{y with wild:=wb,host:=u},?_,?_,?_⟩
        ·rw[HF.out,Bool.and_false];rfl
        ·refine Ih (fun z hz=>?_);rw[HF.out,Bool.and_false]at hz;cases hz
        ·exact HX9.out.drew
       ·go_region_with ((go_at_call 164;refine(cN.out _).mono ?_;rintro e w9 ⟨rfl,rfl⟩))
        all_goals
         go_wp2_with fail
         refine bodyPost_ret (be (u:=3) rfl _ _ w.heap.size {y with wild:=wb,host:=u} (0,0) rfl (heap_drew HR8.out)) rfl ⟨{y with wild:=wb,host:=u},?_,?_,?_⟩
         ·rw[HF.out,Bool.and_true];cases nb<;>rfl
         ·refine Ih (fun z hz=>?_);rw[HF.out,Bool.and_true]at hz;cases nb
          ·cases hz
          ·exact Option.some.inj hz
         ·exact HX9.out.drew
def S9:Obj:=.cells #[.string ⟨#[115,101,108,102]⟩,.string ⟨#[117,110,115,97,102,101,45,105,110,108,105,110,101]⟩,.string ⟨#[117,110,115,97,102,101,45,101,118,97,108]⟩,.string ⟨#[115,116,114,105,99,116,45,100,121,110,97,109,105,99]⟩,.string ⟨#[117,110,115,97,102,101,45,104,97,115,104,101,115]⟩,.string ⟨#[114,101,112,111,114,116,45,115,97,109,112,108,101]⟩,.string ⟨#[119,97,115,109,45,117,110,115,97,102,101,45,101,118,97,108]⟩,.string ⟨#[117,110,115,97,102,101,45,97,108,108,111,119,45,114,101,100,105,114,101,99,116,115]⟩] 9
structure qT (w wx:World):Prop where
 row:∃cs:Array Value,cs.size=8/\wx.heap[w.heap.size]? =some (.cells cs 63 (0,0))
 kws:wx.heap[w.heap.size+1]? =some S9
 below:Below w.heap.size w wx
theorem qT.call {w w1 w2:World} (h:qT w w1) (hb:Below w1.heap.size w1 w2):qT w w2:=by
 obtain⟨⟨cs,h1,h3⟩,h4,h5⟩:=h;exact⟨⟨cs,h1,by rw[hb.block _ (Array.getElem?_eq_some_iff.1 h3).1];exact h3⟩,by rw[hb.block _ (Array.getElem?_eq_some_iff.1 h4).1];exact h4,ae h5 hb⟩
theorem qT.drew {w w1:World} (h:qT w w1):qT w w1.drew:=⟨h.row,h.kws,h.below.drew⟩
def I9 (k:Nat):ByteArray:=⟨(Lz.a6.getD k []).toArray⟩
theorem qT.kw {w w1:World} (h:qT w w1) {k:Nat} (hk:k<8):w1.cell? ⟨w.heap.size+1,k,none⟩=some (.string (I9 k)):=by
 have h2:=h.kws;unfold S9 at h2;rw[cell_of_row _ _ k _ _ _ h2];obtain rfl|rfl|rfl|rfl|rfl|rfl|rfl|rfl:k=0\/k=1\/k=2\/k=3\/k=4\/k=5\/k=6\/k=7:=by omega
 all_goals rfl
theorem Jk (k:Nat):(I9 k).data.toList=Lz.a6.getD k []:=rfl
theorem Rs:∀k,k<8->(I9 k).size<=100:=by decide +kernel
theorem U7 {l:List UInt8} {k:Nat} (hk:k<8) (h:l=Lz.a6.getD k []):Lz.a6.contains l=true:=by
 rw[List.contains_iff_mem,h];have:k<Lz.a6.length:=hk;simp only[List.getD_eq_getElem?_getD,List.getElem?_eq_getElem this,Option.getD_some];exact List.getElem_mem this
theorem QV {l:List UInt8} (h:∀k,k<8->Lz.a6.getD k []≠l):Lz.a6.contains l=false:=by
 rw[Bool.eq_false_iff];intro hc;rw[List.contains_iff_mem]at hc;obtain⟨k,hk⟩:=List.getElem?_of_mem hc;have aL:k<8:=(List.getElem?_eq_some_iff.1 hk).1;refine h k aL ?_;simp only[List.getD_eq_getElem?_getD,hk,Option.getD_some]
def abj (s:ByteArray) (w:World) (i:Value) (wr:World):Prop:=
 ∃k:Nat,k<=8/\i=.int .i64 k/\Hid (∀j,j<k->Lz.a6.getD j []≠Lz.low s.data.toList)/\qT w wr
def aa1 (s:ByteArray) (w:World) (i:Value) (wr:World):Prop:=
 ∃(k:Nat) (b:Int),k<=3/\i=.int .i64 b/\b=256+128*k/\Hid (∀j,j<k->Lz.eH s.data.toList (fF j)=none)/\qT w wr
theorem zZ (s:ByteArray) (hs:s.size<=1048576) (w:World) (hE:Env w):Calls Tryz.prog 106 #[.string s] w (S0 (Lz.bS s.data.toList) w):=by
 go_enter Tryz.func106,Tryz.ntmps106
 go_wp2
 go_loopw [5] (fun i wr=>abj s w i wr) (fun i _=>8-(intOf i).toNat)
 case atStart=>
  refine⟨0,by omega,rfl,Ih (fun j h=>by omega),?_⟩;refine⟨⟨#[.int .i64 0,.string ⟨#[]⟩,.int .i64 0,.string ⟨#[]⟩,.string ⟨#[]⟩,.bool false,.int .i64 0,.string ⟨#[]⟩],rfl,?_⟩,?_,((Below.refl _ w).alloc (Nat.le_refl _) _).alloc (by simp) _⟩
  ·exact(jG (Below.refl _ _)).1
  ·exact(jG (Below.refl _ _)).2
 case round=>
  obtain⟨k,hk,rfl,nx,hQ⟩:=hrel;by_cases aL:k<8
  ·have hkw:=hQ.kw aL;have hkd:=hQ.drew.kw aL;have hkz:=Rs k aL
   have hb:∀u:ByteArray,u.data.toList=Lz.low s.data.toList->(u.toList==(I9 k).toList)=decide (Lz.a6.getD k []=Lz.low s.data.toList):=by
    intro u hu;rw[Lib.toList_data,Lib.toList_data,hu,Jk];by_cases h:Lz.a6.getD k []=Lz.low s.data.toList
    ·rw[decide_eq_true h,h];simp
    ·rw[decide_eq_false h];rw[beq_eq_false_iff_ne];exact fun e=>h e.symm
   obtain⟨q,hq⟩:∃q,q=decide (Lz.a6.getD k []=Lz.low s.data.toList):=⟨_,rfl⟩;rw[<-hq]at hb;have Hb:=Ih hb;have Hq:=Ih hq;have HQ:=Ih hQ;clear hb hq hQ
   go_upto_region 5 with fail
   go_cut [22] (fun s22 wx=>s22=.bool q/\qT w wx)
   case first=>
    go_region_with ((go_at_call 61;(refine(jI s (by omega) _).mono ?_);(rintro e w9 ⟨u,rfl,hu,IJ⟩);(have hq9:=Hb.out u hu.out);(have hQ9:qT w w9:=qT.call (by first |exact HQ.out.drew|exact HQ.out) IJ);(have hk9:=hQ9.kw aL)))
    all_goals
     clear hq9
     go_wp2_with fail
     go_meet;exact⟨by rw[<-Hb.out u hu.out],hQ9⟩
   case rest=>
    clear HQ hkw hkd Hb;obtain⟨rfl,hQ⟩:=hcut;have hkw:=hQ.kw aL;cases q
    ·go_wp2
     go_roundw
     case rel=>exact⟨k+1,by omega,by go_num,Ih (fun j hj=>by
      by_cases Pn:j<k
      ·exact nx.out j Pn
      ·obtain rfl:j=k:=by omega
       exact of_decide_eq_false Hq.out.symm),hQ⟩
     case measure=>simp[intOf];omega
    ·have HK:Hid (Lz.bS s.data.toList=some (Lz.EC (Lz.a6.getD k []))):=by
      show _=_;have h:=of_decide_eq_true Hq.out.symm;unfold Lz.bS;rw[U7 aL h.symm,if_pos rfl,h]
     obtain⟨⟨cs,is,jq⟩,V3,it⟩:=hQ;clear V3
     go_wp2_with (refine a9 rfl _ _ rfl w.heap.size rfl rfl _ jq is ?_)
     refine bodyPost_ret (be (u:=3) rfl _ _ w.heap.size ⟨1,I9 k,0,⟨#[]⟩,⟨#[]⟩,false,-1,⟨#[]⟩⟩ (0,0) rfl (setRow_heap _ _ _ _ _ _ jq)) rfl ⟨⟨1,I9 k,0,⟨#[]⟩,⟨#[]⟩,false,-1,⟨#[]⟩⟩,?_,?_,aR it (Nat.le_refl _)⟩
     ·rw[HK.out];rfl
     ·rw[HK.out];exact Ih (fun y hy=>Option.some.inj hy)
  ·have HK:Hid (Lz.a6.contains (Lz.low s.data.toList)=false):=by
    show _=_;exact QV (fun j hj=>nx.out j (by omega))
   clear nx
   go_wp2_with fail
   refine(uO s ⟨#[110,111,110,99,101,45]⟩ (by omega) _).mono ?_;rintro e w2 ⟨v,rfl,hv,hvz,aE⟩;have Tr:=hQ.call aE;clear aE hQ;generalize hhp:Lib.hasPrefix (Lz.low s.data.toList) (ByteArray.data ⟨#[110,111,110,99,101,45]⟩).toList=hp at hv;have Sk:=Ih hhp;have cB:=Ih (vn v (by omega) w2);generalize mr:Lz.dF v.data.toList=bb at cB;have sN:=Ih mr;clear mr hhp;by_cases hN:hp=true/\bb=true
   ·obtain⟨rfl,rfl⟩:=hN;have hd:=hv.out (by trivial)
    have HR:Hid (Lz.bS s.data.toList=some (Lz.zN v.data.toList)):=by
     show _=_;unfold Lz.bS;have h1:Lib.hasPrefix (Lz.low s.data.toList) Lz.lO=true:=Sk.out;have h2:s.data.toList.drop 6=v.data.toList:=hd.symm;rw[HK.out,h1,h2,sN.out];rfl
    clear hd hv;obtain⟨⟨cs,is,jq⟩,V3,it⟩:=Tr;clear V3
    go_wp2_with (first |(go_at_call 158;(with_reducible refine(cB.out).mono ?_);rintro e w3 ⟨rfl,rfl⟩)|(refine a9 rfl _ _ rfl w.heap.size rfl rfl _ jq is ?_))
    refine bodyPost_ret (be (u:=3) rfl _ _ w.heap.size ⟨4,v,0,⟨#[]⟩,⟨#[]⟩,false,-1,⟨#[]⟩⟩ (0,0) rfl (setRow_heap _ _ _ _ _ _ jq)) rfl ⟨⟨4,v,0,⟨#[]⟩,⟨#[]⟩,false,-1,⟨#[]⟩⟩,?_,?_,aR it (Nat.le_refl _)⟩
    ·rw[HR.out];rfl
    ·rw[HR.out];exact Ih (fun y hy=>Option.some.inj hy)
   ·have DC:Hid (Lz.bS s.data.toList=(Lz.eH s.data.toList 256).or ((Lz.eH s.data.toList 384).or (Lz.eH s.data.toList 512))):=by
     show _=_;unfold Lz.bS
     have h1:(Lib.hasPrefix (Lz.low s.data.toList) Lz.lO&&Lz.dF (s.data.toList.drop 6))=false:=by
      cases hp
      ·have:Lib.hasPrefix (Lz.low s.data.toList) Lz.lO=false:=Sk.out;rw[this];rfl
      ·have hd:v.data.toList=s.data.toList.drop 6:=hv.out (by trivial);rw[<-hd,sN.out];cases bb<;>simp_all
     rw[HK.out,h1];rfl
    have iv:(hp=false)\/(hp=true/\bb=false):=by cases hp<;>cases bb<;>simp_all
    clear hN hv Sk sN HK;rcases iv with rfl|⟨rfl,rfl⟩
    all_goals
     go_wp2_with (go_at_call 158;(with_reducible refine(cB.out).mono ?_);rintro e w3 ⟨rfl,rfl⟩)
     clear cB
     go_loopw [8] (fun i wr=>aa1 s w i wr) (fun i _=>(640-intOf i).toNat)
     case atStart=>exact⟨0,256,by omega,rfl,by omega,Ih (fun j h=>by omega),Tr⟩
     case round=>
      clear Tr;obtain⟨k2,b,cf,rfl,gX,nx,Tr⟩:=hrel;have Hbk:=Ih gX;by_cases tk:k2<3
      ·have pD:256<=b:=by omega
       have av:b<=512:=by omega
       have pu:=oE k2 tk;have wA:fF k2=b:=by unfold fF;omega
       rw[wA]at pu;have Hil:=Ih pu;have DI:=Ih wA;clear pu wA gX
       go_wp2_with fail
       refine(L9 b (by omega) (by omega) _ (hE.below Tr.below)).mono ?_;rintro e w3 ⟨t,rfl,ht,bj⟩;have Sb:t.size<=3:=by rw[<-ac,ht.out,Hil.out];omega
       have hQ3:=Tr.call bj;clear bj Tr
       go_wp2_with fail
       refine(uO s _ (by omega) _).mono ?_;rintro e w4 ⟨v2,rfl,pE,acO,eB⟩;have hQ4:=hQ3.call eB;clear eB hQ3;have Gl:=yq t b ht.out;rw[Gl]at pE;rw[Gl];generalize hhp:Lib.hasPrefix (Lz.low s.data.toList) (Lz.js b)=Ay at pE;have Gv:=Ih hhp;have Hsd:=Ih Gl;have WF:=Ih (vn v2 (by omega) w4);generalize mr:Lz.dF v2.data.toList=bb2 at WF;have Gz:=Ih mr;clear hhp mr Gl;by_cases hN2:Ay=true/\bb2=true
       ·obtain⟨rfl,rfl⟩:=hN2
        have hd:v2.data.toList=s.data.toList.drop (Lz.js b).length:=by
         have h:=pE.out (by trivial);rw[h,<-Hsd.out,ac]
        have KO:Lz.eH s.data.toList (fF k2)=some (Lz.ig v2.data.toList b):=by
         rw[DI.out];unfold Lz.eH;rw[<-hd,Gv.out,Gz.out];rfl
        have HR:Hid (Lz.bS s.data.toList=some (Lz.ig v2.data.toList b)):=by
         show _=_;rw[DC.out,MX tk nx.out KO]
        clear hd KO pE;obtain⟨⟨cs,is,jq⟩,V3,it⟩:=hQ4;clear V3
        go_wp2_with (first |(go_at_call 158;(with_reducible refine(WF.out).mono ?_);rintro e w3 ⟨rfl,rfl⟩)|(refine a9 rfl _ _ rfl w.heap.size rfl rfl _ jq is ?_))
        refine bodyPost_ret (be (u:=3) rfl _ _ w.heap.size ⟨5,v2,b,⟨#[]⟩,⟨#[]⟩,false,-1,⟨#[]⟩⟩ (0,0) rfl (setRow_heap _ _ _ _ _ _ jq)) rfl ⟨⟨5,v2,b,⟨#[]⟩,⟨#[]⟩,false,-1,⟨#[]⟩⟩,?_,?_,aR it (Nat.le_refl _)⟩
        ·rw[HR.out];rfl
        ·rw[HR.out];exact Ih (fun y hy=>Option.some.inj hy)
       ·have jF:Lz.eH s.data.toList (fF k2)=none:=by
         rw[DI.out];refine sF ?_;rw[Gv.out];cases Ay
         ·rfl
         ·have h:=pE.out (by trivial);rw[<-ac,Hsd.out]at h;rw[<-h,Gz.out];cases bb2<;>simp_all
        have xE:=Ih jF;have iv:(Ay=false)\/(Ay=true/\bb2=false):=by cases Ay<;>cases bb2<;>simp_all
        clear jF hN2 pE Gv Gz;rcases iv with rfl|⟨rfl,rfl⟩
        all_goals
         go_wp2_with (go_at_call 158;(with_reducible refine(WF.out).mono ?_);rintro e w3 ⟨rfl,rfl⟩)
         go_roundw
         case rel=>exact⟨k2+1,b+128,by omega,rfl,by have:=Hbk.out;omega,Ih (fun j hj=>by
          by_cases Pn:j<k2
          ·exact nx.out j Pn
          ·obtain rfl:j=k2:=by omega
           exact xE.out),hQ4⟩
         case measure=>simp[intOf];omega
      ·have av:512<b:=by omega
       have HR:Hid (Lz.bS s.data.toList=none):=by
        show _=_;rw[DC.out,rU (fun j hj=>nx.out j (by omega))]
       obtain⟨⟨cs,is,jq⟩,V3,it⟩:=Tr;clear V3 gX nx
       go_wp2_with (refine a9 rfl _ _ rfl w.heap.size rfl rfl _ jq is ?_)
       refine bodyPost_ret (be (u:=3) rfl _ _ w.heap.size ⟨0,⟨#[]⟩,0,⟨#[]⟩,⟨#[]⟩,false,0,⟨#[]⟩⟩ (0,0) rfl (setRow_heap _ _ _ _ _ _ jq)) rfl ⟨⟨0,⟨#[]⟩,0,⟨#[]⟩,⟨#[]⟩,false,0,⟨#[]⟩⟩,?_,?_,aR it (Nat.le_refl _)⟩
       ·rw[HR.out];rfl
       ·rw[HR.out];exact Ih (fun y hy=>by cases hy)
theorem rT (l:List UInt8) (c:UInt8):Lib.hasSuffix l [c]=(l.getLast? ==some c):=by
 unfold Lib.hasSuffix;rw[Bool.eq_iff_iff,List.isSuffixOf_iff_suffix,beq_iff_eq];constructor
 ·rintro⟨t,rfl⟩;simp
 ·intro h;obtain⟨ys,rfl⟩:=List.getLast?_eq_some_iff.1 h;exact⟨ys,rfl⟩
theorem yM {l:List UInt8} {c:UInt8} (h:Lib.hasSuffix l [c]=true):Lib.trimSuffix l [c]=l.take (l.length-1):=by
 unfold Lib.trimSuffix;rw[if_pos h];rfl
theorem BQ {l:List UInt8} (hq:Lz.ia l=false) (h:Lib.hasSuffix l [58]=true) (hs:Lz.bK (l.take (l.length-1))=true):Lz.a8 l=some (Lz.tA (Lz.low (l.take (l.length-1)))):=by
 unfold Lz.a8;rw[hq,h,yM h,hs];rfl
theorem FC {l:List UInt8} (hq:Lz.ia l=false) (h:Lib.hasSuffix l [58]=true->Lz.bK (l.take (l.length-1))=false):Lz.a8 l=Lz.cq l:=by
 unfold Lz.a8;rw[hq];cases hs:Lib.hasSuffix l [58]
 ·rfl
 ·rw[yM hs,h hs];rfl
theorem zC {l:List UInt8} (hq:Lz.ia l=true):Lz.a8 l=Lz.bS ((l.drop 1).dropLast):=by
 unfold Lz.a8;rw[hq];rfl
def oW:ah:=⟨0,⟨#[]⟩,0,⟨#[]⟩,⟨#[]⟩,false,0,⟨#[]⟩⟩
structure qp (w wx:World) (x:ah):Prop where
 row:wx.heap[w.heap.size]? =some (.cells oW.cells 63 (0,0))
 src:dg wx (w.heap.size+1) x
 below:Below w.heap.size w wx
theorem qp.call {w w1 w2:World} {x:ah} (h:qp w w1 x) (hb:Below w1.heap.size w1 w2):qp w w2 x:=by
 obtain⟨h3,h4,h5⟩:=h;exact⟨by rw[hb.block _ (Array.getElem?_eq_some_iff.1 h3).1];exact h3,h4.below hb,ae h5 hb⟩
theorem qp.store {w w1:World} {x:ah} (h:qp w w1 x) (y:ah):qp w (w1.setRow (w.heap.size+1) y.cells) y:=by
 obtain⟨h3,h4,h5⟩:=h;refine⟨?_,setRow_heap _ _ _ _ _ _ h4,aR h5 (by omega)⟩;rw[setRow_other _ _ _ _ (by omega)];exact h3
def aaY (s:ByteArray) (w:World) (v:Value) (wx:World):Prop:=
 ∃(b:Bool) (x:ah),v=.bool b/\qp w wx x/\Hid (b=(Lz.a8 s.data.toList).isSome/\∀y,Lz.a8 s.data.toList=some y->x.src=y)
theorem BP (s:ByteArray) (hs:s.size<=1048576) (w:World) (hE:Env w):Calls Tryz.prog 65 #[.string s] w (Fm s.data.toList w):=by
 obtain⟨q,hq⟩:∃q,q=Lz.ia s.data.toList:=⟨_,rfl⟩;have Hq:=Ih hq;clear hq
 have Lq:qp w ((w.alloc (.cells #[.int .i64 0,.string ⟨#[]⟩,.int .i64 0,.string ⟨#[]⟩,.string ⟨#[]⟩,.bool false,.int .i64 0,.string ⟨#[]⟩] 63)).alloc (.cells #[.int .i64 0,.string ⟨#[]⟩,.int .i64 0,.string ⟨#[]⟩,.string ⟨#[]⟩,.bool false,.int .i64 0,.string ⟨#[]⟩] 63)) oW:=by
  refine⟨(jG (Below.refl _ _)).1,(jG (Below.refl _ _)).2,((Below.refl _ w).alloc (Nat.le_refl _) _).alloc (by simp) _⟩
 go_enter Tryz.func65,Tryz.ntmps65
 go_upto_region 3 with fail
 go_cut [21] (fun s21 wx=>s21=.bool q/\qp w wx oW)
 case first=>
  by_cases h1:1<s.size
  ·have h0:0<s.size:=by omega
   have hl:s.size-1<s.size:=by omega
   have g0:=IA h0;have g1:=tH h0
   have wC:q=((s[0].toNat:Int)==39&&((s[s.size-1].toNat:Int)==39)):=by
    rw[Hq.out];unfold Lz.ia;rw[g0,g1,ac,decide_eq_true h1];have e1:=jM s[0] 39;have e2:=jM (s[s.size-1]'(by omega)) 39;simp only[Bool.true_and];rw[show((39:UInt8).toNat:Int)=39 from rfl]at e1 e2;rw[e1,e2];rfl
   have Oq:=Ih wC;clear wC g0 g1;generalize ha:((s[0].toNat:Int)==39)=a at Oq;generalize hb:((s[s.size-1].toNat:Int)==39)=b at Oq;cases a<;>cases b
   all_goals
    go_wp2_with fail
    all_goals
     go_meet;exact⟨by have h:=Oq.out;subst h;rfl,Lq⟩
  ·have wC:q=false:=by
    rw[Hq.out];unfold Lz.ia;rw[ac,decide_eq_false h1];rfl
   have Oq:=Ih wC;clear wC;have Lp:(s.size:Int)<=1:=by omega
   clear h1
   go_wp2_with fail
   all_goals
    go_meet;exact⟨by have h:=Oq.out;subst h;rfl,Lq⟩
 case rest=>
  clear Lq;obtain⟨rfl,Lq⟩:=hcut
  go_upto_if 21 with fail
  go_cut [5] (fun s5 wx=>aaY s w s5 wx)
  case first=>
   cases q
   ·by_cases RX:(∃h:1<s.size,s[s.size-1]=58/\Lz.bK (s.extract 0 (s.size-1)).data.toList=true)
    ·obtain⟨h1,hc,Xz⟩:=RX;have hl:s.size-1<s.size:=by omega
     have hb:((s[s.size-1].toNat:Int)==58)=true:=(jM _ 58).trans (by simpa using hc);have g1:=tH (show 0<s.size by omega);have hd:s.data.toList.take (s.data.toList.length-1)=(s.extract 0 (s.size-1)).data.toList:=by rw[dI,ac]
     have HP:Hid (Lz.a8 s.data.toList=some (Lz.tA (Lz.low (s.extract 0 (s.size-1)).data.toList))):=by
      show _=_;rw[<-hd];exact BQ Hq.out.symm (by rw[rT,g1,hc];rfl) (by rw[hd];exact Xz)
     have hz:=aV s 0 (s.size-1);have cS:=Ih (lv (s.extract 0 (s.size-1)) (by omega) wc);rw[Xz]at cS;have cL:=Ih (jI (s.extract 0 (s.size-1)) (by omega) wc);clear hc Xz g1 hd
     go_wp2_with (go_at_call 107;(with_reducible refine(cS.out).mono ?_);rintro e w3 ⟨rfl,rfl⟩)
     (with_reducible refine(cL.out).mono ?_)
     rintro e w2 ⟨u,rfl,hu,aE⟩;have Tz:=Lq.call aE;have wG:=Tz.src;unfold dg oW at wG;simp only[ah.cells]at wG;clear aE Lq
     go_wp2_with (refine a9 rfl _ _ rfl (w.heap.size+1) rfl rfl _ wG rfl ?_)
     go_meet;refine⟨true,⟨2,⟨#[]⟩,0,u,⟨#[]⟩,false,-1,⟨#[]⟩⟩,rfl,Tz.store ⟨2,⟨#[]⟩,0,u,⟨#[]⟩,false,-1,⟨#[]⟩⟩,?_⟩;refine⟨by rw[HP.out];rfl,fun y hy=>?_⟩;rw[HP.out]at hy;rw[<-Option.some.inj hy];unfold ah.src;rw[hu.out];rfl
    ·have HP:Hid (Lz.a8 s.data.toList=Lz.cq s.data.toList):=by
      show _=_;refine FC Hq.out.symm fun h=>?_;by_cases h1:1<s.size
      ·have g1:=tH (show 0<s.size by omega);have hd:s.data.toList.take (s.data.toList.length-1)=(s.extract 0 (s.size-1)).data.toList:=by rw[dI,ac]
       rw[rT,g1]at h;have hc:s[s.size-1]=58:=by simpa using h
       rw[hd];cases hb:Lz.bK (s.extract 0 (s.size-1)).data.toList
       ·rfl
       ·exact absurd ⟨h1,hc,hb⟩ RX
      ·have:s.data.toList.take (s.data.toList.length-1)=[]:=by rw[ac,show s.size-1=0 by omega];rfl
       rw[this];rfl
     have cH:=Ih (fun w=>E2 s hs w)
     have iv:(s.size:Int)<=1\/(∃h:1<s.size,¬s[s.size-1]=58)\/(∃h:1<s.size,s[s.size-1]=58/\Lz.bK (s.extract 0 (s.size-1)).data.toList=false):=by
      by_cases h1:1<s.size
      ·by_cases hc:s[s.size-1]=58
       ·refine Or.inr (Or.inr ⟨h1,hc,?_⟩);cases hb:Lz.bK (s.extract 0 (s.size-1)).data.toList
        ·rfl
        ·exact absurd ⟨h1,hc,hb⟩ RX
       ·exact Or.inr (Or.inl ⟨h1,hc⟩)
      ·exact Or.inl (by omega)
     clear RX;rcases iv with h1|⟨h1,hc⟩|⟨h1,hc,Xz⟩
     case' inr.inl=>
      have hl:s.size-1<s.size:=by omega
      have hb:((s[s.size-1].toNat:Int)==58)=false:=(jM _ 58).trans (by simpa using hc);clear hc
     case' inr.inr=>
      have hl:s.size-1<s.size:=by omega
      have hb:((s[s.size-1].toNat:Int)==58)=true:=(jM _ 58).trans (by simpa using hc);have hz:=aV s 0 (s.size-1);have cS:=Ih (lv (s.extract 0 (s.size-1)) (by omega) wc);rw[Xz]at cS;clear hc Xz
     all_goals
      go_wp2_with (go_at_call 107;(with_reducible refine(cS.out).mono ?_);rintro e w3 ⟨rfl,rfl⟩)
      (with_reducible refine(cH.out _).mono ?_)
      rintro e w2 ⟨x,rfl,hx,aE⟩;obtain⟨k1,t1,b1,jK,Gn,GI,Gs,kd⟩:=x
      dsimp only[ah.val]
      obtain⟨ob,Ls⟩:∃ob,ob=(Lz.cq s.data.toList).isSome:=⟨_,rfl⟩;rw[<-Ls];have Xx:=Ih Ls;have Tz:=Lq.call aE;have wG:=Tz.src;unfold dg oW at wG;simp only[ah.cells]at wG;clear aE Lq Ls
      go_wp2_with (refine a9 rfl _ _ rfl (w.heap.size+1) rfl rfl _ wG rfl ?_)
      go_meet;refine⟨_,⟨k1,t1,b1,jK,Gn,GI,Gs,kd⟩,rfl,Tz.store ⟨k1,t1,b1,jK,Gn,GI,Gs,kd⟩,?_⟩;exact⟨by rw[HP.out];exact Xx.out,fun y hy=>hx.out y (by rw[<-HP.out];exact hy)⟩
   ·have h1:(1:Int)<s.size:=by
     have h:=Hq.out.symm;unfold Lz.ia at h;simp only[Bool.and_eq_true,decide_eq_true_eq]at h;have:=h.1.1;rw[ac]at this;omega
    have hz:=aV s 1 (s.size-1);have cQ:=Ih (fun w hE=>zZ (s.extract 1 (s.size-1)) (by omega) w hE)
    have HP:Hid (Lz.a8 s.data.toList=Lz.bS (s.extract 1 (s.size-1)).data.toList):=by
     show _=_;rw[zC Hq.out.symm,kR]
    go_wp2_with fail
    (with_reducible refine(cQ.out _ (hE.below Lq.below)).mono ?_)
    rintro e w2 ⟨x,rfl,hx,aE⟩;obtain⟨k1,t1,b1,jK,Gn,GI,Gs,kd⟩:=x
    dsimp only[ah.val]
    obtain⟨ob,Ls⟩:∃ob,ob=(Lz.bS (s.extract 1 (s.size-1)).data.toList).isSome:=⟨_,rfl⟩;rw[<-Ls];have Xx:=Ih Ls;have Tz:=Lq.call aE;have wG:=Tz.src;unfold dg oW at wG;simp only[ah.cells]at wG;clear aE Lq Ls
    go_wp2_with (refine a9 rfl _ _ rfl (w.heap.size+1) rfl rfl _ wG rfl ?_)
    go_meet;refine⟨_,⟨k1,t1,b1,jK,Gn,GI,Gs,kd⟩,rfl,Tz.store ⟨k1,t1,b1,jK,Gn,GI,Gs,kd⟩,?_⟩;exact⟨by rw[HP.out];exact Xx.out,fun y hy=>hx.out y (by rw[<-HP.out];exact hy)⟩
  case rest=>
   clear Lq;obtain⟨b,x,rfl,hP,HB⟩:=hcut;obtain⟨k1,t1,b1,jK,Gn,GI,Gs,kd⟩:=x;obtain⟨hR,hT,it⟩:=hP;unfold oW at hR;unfold dg at hT;simp only[ah.cells]at hR hT;cases hp:Lz.a8 s.data.toList with
   | none=>
     have hb:b=false:=by rw[HB.out.1,hp];rfl
     have HE:Hid (em s.data.toList=250/\ie s.data.toList=⟨0,[],0,[],[],false,0,[]⟩):=by refine⟨?_,?_⟩<;>simp[em,ie,hp]
     clear hp HB;subst hb
     go_wp2_with (refine a9 rfl _ _ rfl w.heap.size rfl rfl _ hR rfl ?_)
     refine bodyPost_ret (jt (u:=3) rfl _ _ w.heap.size ⟨0,⟨#[]⟩,0,⟨#[]⟩,⟨#[]⟩,false,0,⟨#[]⟩⟩ (0,0) 250 rfl rfl (setRow_heap _ _ _ _ _ _ hR)) rfl ⟨⟨0,⟨#[]⟩,0,⟨#[]⟩,⟨#[]⟩,false,0,⟨#[]⟩⟩,by rw[HE.out.1],by show _=_;rw[HE.out.2];rfl,aR it (Nat.le_refl _)⟩
   | some y=>
     have hb:b=true:=by rw[HB.out.1,hp];rfl
     have HY:=Ih (HB.out.2 y hp);have HE:Hid (em s.data.toList=0/\ie s.data.toList=y):=by refine⟨?_,?_⟩<;>simp[em,ie,hp]
     clear hp HB;subst hb
     go_wp2_with (first |(refine wpList_load_row rfl 63 _ rfl (w.heap.size+1) rfl 63 _ (0,0) _ hT Tryz.underlying63 rfl nH ?_)|(refine a9 rfl _ _ rfl w.heap.size rfl rfl _ hR rfl ?_))
     refine bodyPost_ret (jt (u:=3) rfl _ _ w.heap.size ⟨k1,t1,b1,jK,Gn,GI,Gs,kd⟩ (0,0) 0 rfl rfl (setRow_heap _ _ _ _ _ _ hR)) rfl ⟨⟨k1,t1,b1,jK,Gn,GI,Gs,kd⟩,by rw[HE.out.1],by show _=_;rw[HE.out.2];exact HY.out,aR it (Nat.le_refl _)⟩
end Go.Proofs.YtibcmemcfjhgmaaGreatDoor
