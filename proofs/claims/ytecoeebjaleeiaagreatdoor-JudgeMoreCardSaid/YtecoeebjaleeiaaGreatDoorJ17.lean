/-
  Plain laws on lists: what one policy more does to marks and violations (lazaretlaw31.JudgeMore, JudgeEach).
-/
import Derived.Test.YtecoeebjaleeiaaGreatDoorJ16
import Derived.ProofKit
import Derived.OpenShut
import Derived.Deep.DeepWitnessRowRef
set_option maxHeartbeats 8000000
set_option maxRecDepth 100000
namespace Lz
open Go
section
variable (sum:Int->Bs->Bs)
end
section
variable {dig:Int->Bs->Bs}
end
end Lz
namespace Go.Proofs.YtecoeebjaleeiaaGreatDoor
open Go.RowKit
def V8L (R:Nat) (s:Lz.St8 UInt64) (w:World):Prop:=w.heap[R]? =some (.cells (eS s.list).toArray 242 (0,0))
theorem V8L.keep {R:Nat} {h:Lz.St8 UInt64} {w w':World} {B:Nat} (k:V8L R h w) (hb:Below B w w') (hR:R<B):V8L R h w':=by
 unfold V8L at k⊢;rw[hb.block _ hR];exact k
theorem Rd (l:List UInt64) (hl:l.length=8) (i:Nat) (hi:i<8) (w:World):(Instr.index 242 (.agg (eS l).toArray) (.int .i64 (i:Int))).run Tryz.prog w=.ok (.int .u64 (N64 (l.getD i 0))) w:=by
 unfold Instr.index;have h0:(0:Int)<=(i:Int):=by omega
 have vv:(eS l)[i]? =some (.int .u64 (N64 (l.getD i 0))):=by
  unfold eS;rw[List.getElem?_map,List.getD_eq_getElem?_getD,List.getElem?_eq_getElem (by omega)];rfl
 have hp:∀W,(part 222 (eS l).toArray i).run Tryz.prog W=.ok (.int .u64 (N64 (l.getD i 0))) W:=fun W=>by
  unfold part
  simp[run_isAgg_plain (P:=Tryz.prog) Tryz.underlying222 rfl,vv]
 simp[run_underlying Tryz.underlying242,asIntOf,h0,hp,hi]
def mY (x:UInt64) (j:Nat):List UInt8:=(List.range j).map fun i=>(x>>>(UInt64.ofNat (56-8*i))).toUInt8
theorem EA (x:UInt64) (j:Nat):mY x (j+1)=mY x j++[(x>>>(UInt64.ofNat (56-8*j))).toUInt8]:=by
 unfold mY;rw[List.range_succ,List.map_append];rfl
theorem Zf (y:UInt64):N64 y%256=(y.toUInt8.toNat:Int):=by unfold N64;rw[UInt64.toNat_toUInt8];omega
theorem IF (bi:List UInt64) (h:Lz.St8 UInt64) (s:ByteArray) (hs:s.size<=1073741824) (w:World) (hT:xj bi w):Calls Tryz.prog 187 #[.agg (eS h.list).toArray,.string s] w fun e w'=>e=.returned (.string ⟨(Lz.og bi h s.data.toList).toArray⟩)/\Below w.heap.size w w':=by
 obtain⟨W1,nD⟩:∃W,W=w.alloc (.cells (eS h.list).toArray 242):=⟨_,rfl⟩;have Fr:V8L w.heap.size h W1:=by rw[nD];exact ah _ _
 have nQ:Below w.heap.size w W1:=by rw[nD];exact(Below.refl _ w).alloc (Nat.le_refl _) _
 have aU:w.heap.size<W1.heap.size:=by rw[nD];simp
 have kb:=run_bytes_of_string (P:=Tryz.prog) W1 9 75 5 s Tryz.underlying9 Tryz.underlying75 Tryz.underlying5;have hO1:=JZ s W1 (by omega);have HW:=Ih nD;have HT:=Ih hT;clear nD hT;obtain⟨cap,iW⟩:∃cap,cap=grownCap W1 s.size 0 5:=⟨_,rfl⟩;rw[<-iW]at kb hO1;clear iW;obtain⟨fz,If⟩:∃f:Nat×Nat,f=((bytesRow s cap).size,(bytesRow s cap).size+1):=⟨_,rfl⟩;rw[<-If]at kb hO1;clear If;obtain⟨br,hbr⟩:∃b,b=bytesRow s cap:=⟨_,rfl⟩;rw[<-hbr]at kb hO1;clear hbr;go_enter Tryz.func187,Tryz.ntmps187
 go_upto_region 1 with fail
 change Code.wp _ _ _ _ (w.alloc (.cells (eS h.list).toArray 242));rw[<-HW.out];have e1:(W1.alloc (.cells br 5 fz)).heap.size=W1.heap.size+1:=by simp
 have Qf:Below W1.heap.size W1 ((W1.alloc (.cells br 5 fz)).alloc (.cells #[.int .u8 128] 5)).drew:=(((Below.refl _ W1).alloc (Nat.le_refl _) _).alloc (by simp) _).drew;have Wi:fs ((W1.alloc (.cells br 5 fz)).alloc (.cells #[.int .u8 128] 5)).drew W1.heap.size (.slice (some ⟨W1.heap.size,0,none⟩) s.size cap) s.size s.data.toList:=hO1.kept ((Below.refl _ (W1.drew.alloc (.cells br 5 fz))).alloc (Nat.le_refl _) _)
 have yj:∀j u,(u8s [128])[j]? =some u->((W1.alloc (.cells br 5 fz)).alloc (.cells #[.int .u8 128] 5)).drew.cell? ((⟨W1.heap.size+1,0,none⟩:Addr).add j)=some u:=by
  intro j u hu;have:=bD (W1.alloc (.cells br 5 fz)) (.int .u8 128) 5 j u hu
  rwa [e1]at this
 clear e1 hO1;obtain⟨n1,XA⟩:∃n,s.size+1=n:=⟨_,rfl⟩;obtain⟨r1,bC⟩:∃n,n=n1%128:=⟨_,rfl⟩;obtain⟨q1,bO⟩:∃n,n=240-r1:=⟨_,rfl⟩;obtain⟨m1,jT⟩:∃n,n=q1%128:=⟨_,rfl⟩;obtain⟨n2,ZU⟩:∃n,n1+m1=n:=⟨_,rfl⟩;obtain⟨n3,aaJ⟩:∃n,n2+8=n:=⟨_,rfl⟩;obtain⟨p1,Ul⟩:∃l,s.data.toList++[128]=l:=⟨_,rfl⟩;obtain⟨p2,AM⟩:∃l,p1++List.replicate m1 0=l:=⟨_,rfl⟩;obtain⟨pre,lT⟩:∃l,p2++List.replicate 8 0=l:=⟨_,rfl⟩;have f1:Int.tmod (n1:Int) 128=(r1:Int):=by rw[Int.tmod_eq_emod_of_nonneg (by omega)];omega
 have f1':(n1:Int)%128=(r1:Int):=by omega
 have f2:(240:Int)-(r1:Int)=(q1:Int):=by omega
 have f2':IntKind.i64.wrap (240-(r1:Int))=(q1:Int):=by rw[f2];exact IntWalk.i64_in _ (by omega)
 have f3:Int.tmod (q1:Int) 128=(m1:Int):=by rw[Int.tmod_eq_emod_of_nonneg (by omega)];omega
 have f3':(q1:Int)%128=(m1:Int):=by omega
 have Hm1:Hid (m1=(240-(s.size+1)%128)%128):=by show _=_;rw[jT,bO,bC,<-XA]
 have ar:n1<=1073741825/\n2<=1073742000/\n3<=1073742100:=by omega
 have Hn:Hid (s.size+1=n1/\n1+m1=n2/\n2+8=n3):=⟨XA,ZU,aaJ⟩;have HP:Hid (s.data.toList++[128]=p1/\p1++List.replicate m1 0=p2/\p2++List.replicate 8 0=pre):=⟨Ul,AM,lT⟩;clear jT bO bC XA ZU aaJ Ul AM lT
 go_wp2_with (at_builtin;refine kq rfl (.tmp 13) (.tmp 14) rfl W1.heap.size _ s.size 1 1 n1 _ [128] p1 ⟨W1.heap.size+1,0,none⟩ rfl rfl Wi Hn.out.1 HP.out.1 rfl yj (by omega) Qf.size ?_)
 intro v1 w2 SB zl;have az:Below W1.heap.size W1 w2:=Wi.below zl Qf (Nat.le_refl _) Qf.size;clear Wi zl Qf yj kb;obtain⟨a1,c1,rfl⟩:=SB.len
 go_wp2_with (at_builtin;refine kp rfl (.tmp 16) (.tmp 21) rfl W1.heap.size _ n1 m1 n2 _ p2 rfl rfl SB Hn.out.2.1 HP.out.2.1 (by rw[Hn.out.2.1];omega) az.size ?_)
 intro v2 w3 hO3 Ju;have aO:Below W1.heap.size W1 w3:=SB.below Ju az (Nat.le_refl _) az.size;clear SB Ju az f1 f1' f2 f2' f3 f3';obtain⟨a2,c2,rfl⟩:=hO3.len
 go_wp2_with (at_builtin;refine kp rfl (.tmp 23) (.const (.int .i64 8)) rfl W1.heap.size _ n2 8 n3 _ pre rfl rfl hO3 Hn.out.2.2 HP.out.2.2 (by omega) aO.size ?_)
 intro v3 w4 hO4 Uh;have dy:Below W1.heap.size W1 w4:=hO3.below Uh aO (Nat.le_refl _) aO.size;clear hO3 Uh aO
 go_wp2_with fail
 go_loopw [5,6,25] (fun v _ k wr=>∃i:Nat,k=.int .i64 i/\i<=8/\fs wr W1.heap.size v (n3+i) (pre++oK s.size i)/\Below W1.heap.size W1 wr) (fun _ _ k _=>8-(intOf k).toNat)
 case atStart=>exact⟨0,rfl,by omega,by rw[show oK s.size 0=[]from rfl,List.append_nil];exact hO4,dy⟩
 case round=>
  obtain⟨i,rfl,hi,au,hb⟩:=hrel;obtain⟨g,c,rfl,pF,hcN⟩:=au.form;by_cases aV:i<8
  ·have bW:(i:Int)<8:=by omega
   obtain⟨x,hx⟩:∃x:UInt8,UInt8.ofNat (s.size*8 / 2^(56-8*i))=x:=⟨_,rfl⟩;have PF:((s.size:Int)*8 / 2^(56-8*i)%256)=(x.toNat:Int):=by rw[<-hx,UInt8.toNat_ofNat'];simp
   have HX:Hid ((pre++oK s.size i)++[x]=pre++oK s.size (i+1)):=by show _=_;rw[zz,hx,List.append_assoc]
   clear hx
   go_wp2_with (at_builtin;refine kq rfl (.tmp 28) (.tmp 38) rfl W1.heap.size _ (n3+i) 1 1 (n3+(i+1)) _ [x] (pre++oK s.size (i+1)) ⟨wr.heap.size,0,none⟩ rfl rfl (au.kept ((Below.refl _ wr).alloc (Nat.le_refl _) _)) (by omega) HX.out rfl (fun j u hu=>bD wr _ _ j u hu) (by omega) (Nat.le_trans hb.size (by simp)) ?_)
   intro v5 w5 ZM LX;have aI:Below W1.heap.size W1 w5:=(au.kept ((Below.refl _ wr).alloc (Nat.le_refl _) _)).below LX (hb.alloc hb.size _) (Nat.le_refl _) (Nat.le_trans hb.size (by simp));clear au LX hb;obtain⟨g5,c5,rfl,_,_⟩:=ZM.form
   go_wp2_with fail
   go_roundw
   case rel=>exact⟨i+1,by go_num,by omega,ZM,aI⟩
   case measure=>simp[intOf];omega
  ·obtain rfl:i=8:=by omega
   obtain⟨N,hN⟩:∃n,n=n3+8:=⟨_,rfl⟩;obtain⟨ml,E8⟩:∃l,l=pre++oK s.size 8:=⟨_,rfl⟩;rw[<-hN]at au hcN⊢;rw[<-E8]at au;have hNb:N<=1073742200:=by omega
   have hNq:N%128=0:=by
    have h1:=Hm1.out;have h2:=Hn.out;omega
   have HM:Hid (ml=s.data.toList++Lz.I3 s.size):=by
    show _=_;rw[E8,<-HP.out.2.2,<-HP.out.2.1,<-HP.out.1,Hm1.out];unfold Lz.I3;rw[<-List.replicate_append_replicate];show _++Lz.OE s.size=_;simp only[List.append_assoc,List.cons_append,List.nil_append]
   have aaa:ml.length=N:=au.length;obtain⟨q,hq⟩:∃q,N=128*q:=⟨N / 128,by omega⟩;have Hq:=Ih hq;have aax:=Ih aaa;obtain⟨H,hH⟩:∃H,H=w.heap.size:=⟨_,rfl⟩;obtain⟨B1,aao⟩:∃B,B=W1.heap.size:=⟨_,rfl⟩;have hVr:V8L w.heap.size h wr:=Fr.keep hb aU;have hBr:Below w.heap.size w wr:=nQ.trans (hb.mono (Nat.le_of_lt aU));have hHw:H<=w.heap.size:=Nat.le_of_eq hH;have HTb:Hid (∀V,Below H w V->xj bi V):=Ih (fun V hV=>HT.out.keep (hH▸hV));rw[<-hH]at hVr hBr aU⊢;rw[<-aao]at au aU;have ZS:H<B1:=aU;have HHE:=Ih hH;clear hH aao hN E8 hq aaa Fr hb hNq aU
   go_wp2_with fail
   go_loopw [7] (fun a wr=>∃j:Nat,a=.int .i64 ((128*j:Nat):Int)/\j<=q/\V8L H (Lz.fO (Lz.oH bi) 128 j h ml) wr/\fs wr B1 (.slice (some ⟨g,0,none⟩) N c) N ml/\Below H w wr) (fun a _=>N-(intOf a).toNat)
   case atStart=>exact⟨0,rfl,by omega,hVr,au,hBr⟩
   case round=>
    obtain⟨j,rfl,hj,hV,hO,hB⟩:=hrel;obtain⟨a1,Cu⟩:∃a,a=128*j:=⟨_,rfl⟩;rw[<-Cu];by_cases aV:j<q
    ·have bO:=Hq.out;have h1:(a1:Int)<(N:Int):=by omega
     have h3:a1+128<=N:=by omega
     obtain⟨a2,yw⟩:∃a,a=a1+128:=⟨_,rfl⟩;have fw:IntKind.i64.wrap ((a1:Int)+128)=(a2:Int):=by rw[show(a1:Int)+128=(a2:Int) by omega];exact IntWalk.i64_in _ (by omega)
     have h2:(0:Int)<=(a2:Int)/\(a2:Int)<=(c:Int):=by omega
     have h4:a1<=a2:=by omega
     have h5:a2-a1=128:=by omega
     have h6:¬c=a1:=by omega
     have Ha2:=Ih yw;clear yw;obtain⟨F,hF⟩:∃F,F=Lz.fO (Lz.oH bi) 128 j h ml:=⟨_,rfl⟩;rw[<-hF]at hV;obtain⟨bb,pA⟩:∃b:ByteArray,b=⟨((ml.drop a1).take 128).toArray⟩:=⟨_,rfl⟩
     have yo:bb.size=128:=by
      rw[<-aa,pA];show((ml.drop a1).take 128).length=_;rw[List.length_take,List.length_drop,aax.out];omega
     have HTX:Hid (∀V,fs V B1 (.slice (some ⟨g,0,none⟩) N c) N ml->(convert 75 9 (.slice (some ⟨g,a1,none⟩) 128 (c-a1))).run Tryz.prog V=.ok (.string bb) V):=Ih (fun V hV=>by rw[pA];exact hV.text a1 128 (c-a1) h3);obtain⟨Y,hY⟩:∃Y,Y=Lz.oH bi F bb.data.toList:=⟨_,rfl⟩;have cWi:Hid (∀W,xj bi W->Calls Tryz.prog 225 #[.agg (eS F.list).toArray,.string bb] W fun e w'=>e=.returned (.agg (eS Y.list).toArray)/\Below W.heap.size W w'):=Ih (fun W hT=>by rw[hY];exact N4 bi F bb yo W hT)
     have HF:Hid (Lz.fO (Lz.oH bi) 128 (j+1) h ml=Y):=by
      show _=_;rw[lD,<-Cu,<-hF,hY,pA]
     have Ha1:=Ih Cu;clear Cu hF pA h3 bO hY
     go_upto_region 12 with fail
     have hV0:V8L H F wr.drew:=hV;refine wp_region_held_drew (S:=fun V=>fs V B1 (.slice (some ⟨g,0,none⟩) N c) N ml/\Below H w V) (by kernel_rfl) ⟨hO.kept (Below.refl _ wr).drew,hB.drew⟩ (fun ae=>?_);generalize wr.drew=W2 at ae hV0⊢;apply TkG 1 48;apply TkG 2 49;apply TkG 3 50;apply TkG 4 51;apply TkG 5 52;apply TkG 6 53
     iterate 6 (rotate_right 2;(·(intro W aM;(try dsimp only at aM);have hTx:=HTX.out W aM.1;(try simp only[Act.put]);(try simp only[List.setIfInBounds_toArray]);(try simp only[List.set_cons_zero,List.set_cons_succ]);go_simp;try with_reducible rfl)))
     (try simp only[Act.put]);(try simp only[List.setIfInBounds_toArray]);(try simp only[List.set_cons_zero,List.set_cons_succ])
     refine wpAnyH_ready (rs:=[0]) (by kernel_rfl) (by simp) ?_;refine AllReadyH.cons rfl (fun K hK=>?_) AllReadyH.nil;rw[if_pos (by rfl)];refine wp_load_row 242 (.tmp 2) rfl H rfl 242 _ (0,0) _ hV0 Tryz.underlying242 rfl pg ?_;refine hK.out _ _ ae (fun ae=>?_);clear hK K
     (try simp only[Act.put]);(try simp only[List.setIfInBounds_toArray]);(try simp only[List.set_cons_zero,List.set_cons_succ])
     refine wpAnyH_ready (rs:=[7]) (by kernel_rfl) (by simp) ?_;refine AllReadyH.cons rfl (fun K hK=>?_) AllReadyH.nil;go_simp
     go_at_call 225
     refine(cWi.out W2 (HTb.out W2 ae.2)).mono ?_;rintro e w5 ⟨rfl,aI⟩;refine hK.out _ _ ⟨ae.1.kept aI,ae.2.trans (aI.mono (Nat.le_trans hHw ae.2.size))⟩ (fun Is=>?_);clear hK K;have TF:=hV0.keep aI (af hV0)
     (try simp only[Act.put]);(try simp only[List.setIfInBounds_toArray]);(try simp only[List.set_cons_zero,List.set_cons_succ])
     refine wpAnyH_ready (rs:=[8]) (by kernel_rfl) (by simp) ?_;refine AllReadyH.cons rfl (fun K hK=>?_) AllReadyH.nil;rw[if_pos (by rfl)];refine wp_store_row 242 (.tmp 2) (.tmp 54) rfl H (eS Y.list).toArray rfl rfl 242 _ TF pg rfl (MO _) ?_;refine hK.out _ _ ⟨Is.1.setRow H _ ZS,aH Is.2 (Nat.le_refl _)⟩ (fun ae=>?_);clear hK K
     (try simp only[Act.put]);(try simp only[List.setIfInBounds_toArray]);(try simp only[List.set_cons_zero,List.set_cons_succ])
     refine wpAnyH_done (by kernel_rfl) ?_ _;have hV6:V8L H Y (w5.setRow H (eS Y.list).toArray):=setRow_heap _ _ _ _ _ _ TF;obtain⟨hO6,hB6⟩:=ae;clear TF hV0 Is hO hV hB;generalize w5.setRow H (eS Y.list).toArray=w6 at hV6 hO6 hB6⊢
     go_wp2_with fail
     refine⟨⟨_,_,_,_,_,_,_,_,_,_,_,_,_,_,_,?rel,rfl⟩,?measure⟩
     case rel=>exact⟨j+1,by rw[Ha2.out,Ha1.out];go_num,by omega,by rw[HF.out];exact hV6,hO6,hB6⟩
     case measure=>simp[intOf];omega
    ·obtain rfl:j=q:=by omega
     have yw:a1=N:=by rw[Cu,<-Hq.out]
     subst yw;clear Cu;have h1:¬((a1:Int)<(a1:Int)):=by omega
     obtain⟨F,hF⟩:∃F,F=Lz.fO (Lz.oH bi) 128 j h ml:=⟨_,rfl⟩;rw[<-hF]at hV
     have HF:Hid (Lz.og bi h s.data.toList=F.list.flatMap Lz.ph):=by
      show _=_;unfold Lz.og Lz.NP;rw[aa,<-HM.out,aax.out,hF,show a1 / 128=j by have:=Hq.out;omega]
     clear hF hO;obtain⟨i0,o9,fI,ei,eM⟩:=info_parts Tryz.infoU8
     go_wp2_with (first |(refine wpList_load_row rfl 242 (.tmp 2) rfl H rfl 242 _ (0,0) _ hV Tryz.underlying242 rfl pg ?_))
     have uJ:=Ih (fun(i:Nat) (hi:i<8) W=>Rd F.list rfl i hi W);obtain⟨A8,TT⟩:∃A,A=(eS F.list).toArray:=⟨_,rfl⟩;rw[<-TT]at uJ⊢;clear TT hV;have Tt:H<=w.heap.size:=hHw
     go_loopw [8,10,11,56,59] (fun v _ _ k _ wr=>∃i:Nat,k=.int .i64 i/\i<=8/\wr.ownsRow H 5 1 v (8*i) (u8s ((F.list.take i).flatMap Lz.ph))/\Below H w wr) (fun _ _ _ k _ _=>8-(intOf k).toNat)
     case atStart=>exact⟨0,rfl,by omega,World.ownsRow_nil _ _ _ _,hB⟩
     case round=>
      obtain⟨i8,rfl,Sv,au,hb⟩:=hrel;by_cases aV:i8<8
      ·have bW:(i8:Int)<8:=by omega
       have abW:(0:Int)<=(i8:Int)/\(i8:Int)<8:=by omega
       have yr:=uJ.out i8 aV;obtain⟨x,hx⟩:∃x,F.list.getD i8 0=x:=⟨_,rfl⟩;rw[hx]at yr;obtain⟨L0,hL0⟩:∃l,l=(F.list.take i8).flatMap Lz.ph:=⟨_,rfl⟩;rw[<-hL0]at au
       have HN:Hid ((F.list.take (i8+1)).flatMap Lz.ph=L0++mY x 8):=by
        show _=_;have h8:i8<F.list.length:=aV;rw[List.take_succ_eq_append_getElem h8,List.flatMap_append,<-hL0,<-hx,List.getD_eq_getElem?_getD,List.getElem?_eq_getElem h8]
        simp[mY,Lz.ph]
       clear hx hL0;obtain⟨N0,hN0⟩:∃n,n=8*i8:=⟨_,rfl⟩;rw[<-hN0]at au;have HN0:=Ih hN0;have acX:N0<=64:=by omega
       clear hN0
       go_wp2_with fail
       go_loopw [8,11,59] (fun v _ k wr=>∃i:Nat,k=.int .i64 i/\i<=8/\wr.ownsRow H 5 1 v (N0+i) (u8s (L0++mY x i))/\Below H w wr) (fun _ _ k _=>8-(intOf k).toNat)
       case atStart=>exact⟨0,rfl,by omega,by rw[show mY x 0=[]from rfl,List.append_nil];exact au,hb⟩
       case round=>
        obtain⟨i,rfl,hi,au,hb⟩:=hrel;have ew:=Ih au;have ju:=Nat.le_trans Tt hb.size;clear au;by_cases oY:i<8
        ·have Jt:(i:Int)<8:=by omega
         obtain⟨c8,Ty⟩:∃c:UInt8,(x>>>UInt64.ofNat (56-8*i)).toUInt8=c:=⟨_,rfl⟩
         have PF:N64 x / 2^(56-8*i)%256=(c8.toNat:Int):=by
          rw[Vb x _ (by omega),<-Ty,Zf]
         have gM:Hid (u8s (L0++mY x i)++[.int .u8 (c8.toNat:Int)]=u8s (L0++mY x (i+1))):=by
          show _=_;rw[DH,EA,Ty,List.append_assoc]
         clear Ty
         go_wp2_with (at_builtin;refine wpList_append_own _ rfl (.tmp 62) (.tmp 69) 75 rfl H 5 i0 (.int .u8 0) 1 1 Tryz.underlying75 o9 fI ei eM rfl (by decide) _ _ _ rfl (ew.out.alloc _) ⟨wr.heap.size,0,none⟩ 1 1 [.int .u8 (c8.toNat:Int)] rfl rfl (bD _ _ _) (by simp[Value.oneCell']) (by unfold maxLen;omega) (by omega) (by simp;omega) ?_)
         intro v' w9 bf cp _;have Fm:=Below.grown1 hb ew.out cp ju (Nat.le_refl _);rw[gM.out]at bf;have gV:=Ih bf;clear bf cp gM hb
         go_wp2_with fail
         go_roundw
         case rel=>exact⟨i+1,by go_num,by omega,gV.out,Fm⟩
         case measure=>simp[intOf];omega
        ·obtain rfl:i=8:=by omega
         have Jt:¬(((8:Nat):Int)<8):=by omega
         go_wp2_with fail
         go_roundw
         case rel=>exact⟨i8+1,by go_num,by omega,by rw[HN.out,show 8*(i8+1)=N0+8 by have:=HN0.out;omega];exact ew.out,hb⟩
         case measure=>simp[intOf];omega
      ·obtain rfl:i8=8:=by omega
       have bW:¬(((8:Nat):Int)<8):=by omega
       have pJ:=rc au;clear au
       go_wp2_with fail
       go_ret;rw[HF.out,show F.list.take 8=F.list from rfl];exact⟨rfl,HHE.out▸hb⟩
def my:Lz.St8 UInt64:=⟨0x6a09e667f3bcc908,0xbb67ae8584caa73b,0x3c6ef372fe94f82b,0xa54ff53a5f1d36f1,0x510e527fade682d1,0x9b05688c2b3e6c1f,0x1f83d9abfb41bd6b,0x5be0cd19137e2179⟩
theorem Vj:(#[.int .u64 7640891576956012808,.int .u64 13503953896175478587,.int .u64 4354685564936845355,.int .u64 11912009170470909681,.int .u64 5840696475078001361,.int .u64 11170449401992604703,.int .u64 2270897969802886507,.int .u64 6620516959819538809]:Array Value)=(eS my.list).toArray:=by kernel_rfl
def mF:Lz.St8 UInt64:=⟨0xcbbb9d5dc1059ed8,0x629a292a367cd507,0x9159015a3070dd17,0x152fecd8f70e5939,0x67332667ffc00b31,0x8eb44a8768581511,0xdb0c2e0d64f98fa7,0x47b5481dbefa4fa4⟩
theorem Vy:(#[.int .u64 14680500436340154072,.int .u64 7105036623409894663,.int .u64 10473403895298186519,.int .u64 1526699215303891257,.int .u64 7436329637833083697,.int .u64 10282925794625328401,.int .u64 15784041429090275239,.int .u64 5167115440072839076]:Array Value)=(eS mF.list).toArray:=by kernel_rfl
theorem Aj (bi:List UInt64) (h:Lz.St8 UInt64) (l:List UInt8):(Lz.og bi h l).length=64:=Lz.Ld _
theorem G4 (bi:List UInt64) (s:ByteArray) (hs:s.size<=1073741824) (w:World) (hT:xj bi w):Calls Tryz.prog 149 #[.string s] w (gJ (Lz.og bi my s.data.toList) w):=by
 have cS:=Ih (IF bi my s hs w hT);clear hT;go_enter Tryz.func149,Tryz.ntmps149
 go_wp2_with fail
 rw[Vj];refine cS.out.mono ?_;rintro e w1 ⟨rfl,ar⟩
 go_wp2_with fail
 go_ret;exact⟨_,rfl,rfl,ar⟩
theorem Gv (bi:List UInt64) (s:ByteArray) (hs:s.size<=1073741824) (w:World) (hT:xj bi w):Calls Tryz.prog 148 #[.string s] w (gJ ((Lz.og bi mF s.data.toList).take 48) w):=by
 have cS:=Ih (IF bi mF s hs w hT);obtain⟨l,hl⟩:∃l,l=Lz.og bi mF s.data.toList:=⟨_,rfl⟩;have mS:l.length=64:=by rw[hl];exact Aj _ _ _
 rw[<-hl]at cS⊢;clear hT hl;go_enter Tryz.func148,Tryz.ntmps148
 go_wp2_with fail
 rw[Vy];refine cS.out.mono ?_;rintro e w1 ⟨rfl,ar⟩;obtain⟨T,hT⟩:∃T:ByteArray,T=⟨l.toArray⟩:=⟨_,rfl⟩;have hz:T.size=64:=by rw[hT];show l.toArray.size=64;rw[List.size_toArray,mS]
 have hd:T.data.toList=l:=by rw[hT]
 have Hd:=Ih hd;rw[<-hT];clear hT hd mS
 go_wp2_with fail
 go_ret;exact⟨_,rfl,Ih (by rw[<-Hd.out];simp[ByteArray.data_extract]),ar⟩
def U6:ByteArray:=⟨#[65,66,67,68,69,70,71,72,73,74,75,76,77,78,79,80,81,82,83,84,85,86,87,88,89,90,97,98,99,100,101,102,103,104,105,106,107,108,109,110,111,112,113,114,115,116,117,118,119,120,121,122,48,49,50,51,52,53,54,55,56,57,43,47]⟩
theorem RW:∀d:Fin 64,U6[d.val]'(Nat.lt_of_lt_of_le d.isLt (by decide))=Lz.b64.getD d.val 0:=by decide +kernel
theorem Vr (d:Nat) (h:d<64) {h':d<U6.size}:U6[d]'h'=Lz.b64.getD d 0:=RW ⟨d,h⟩
theorem Vn (p c:Nat) (hp:p%256=0) (AM:p<16777216) (hc:c<256):bits .or .u32 (p:Int) (c:Int)=((p+c:Nat):Int):=by
 have h:=YK (UInt32.ofNat p) (UInt32.ofNat c);rw[UInt32.toNat_ofNat',UInt32.toNat_ofNat',Nat.mod_eq_of_lt (by omega),Nat.mod_eq_of_lt (by omega),UInt32.toNat_or,UInt32.toNat_ofNat',UInt32.toNat_ofNat',Nat.mod_eq_of_lt (by omega),Nat.mod_eq_of_lt (by omega)]at h;rw[h];obtain⟨q,rfl⟩:∃q,p=2^8*q:=⟨p / 256,by omega⟩;rw[Nat.two_pow_add_eq_or_of_lt hc]
theorem UD (x:Nat) (hx:x<4294967296):bits .and .u32 (x:Int) 63=((x%64:Nat):Int):=by
 have h:=Ti (UInt32.ofNat x) 63;rw[UInt32.toNat_ofNat',Nat.mod_eq_of_lt (by omega),UInt32.toNat_and,UInt32.toNat_ofNat',Nat.mod_eq_of_lt (by omega)]at h;rw[show((63:Int))=(((63:UInt32).toNat:Nat):Int) by rfl,h];rw[show(63:UInt32).toNat=2^6-1 by rfl,Nat.and_two_pow_sub_one_eq_mod]
theorem A3 (s:ByteArray) (hs:s.size<=1073741824) (w:World):Calls Tryz.prog 146 #[.string s] w (gJ (Lz.jg s.data.toList) w):=by
 have V4:=Lib.fresh_isBuilder 77 5 w;have HS:=Ih hs;go_enter Tryz.func146,Tryz.ntmps146
 go_wp2_with fail
 go_loopw [0,4,5,6,7,15,31] (fun sv _ _ _ _ _ _ wr=>∃(r:ByteArray) (out:List UInt8),sv=.string r/\Hid (out++Lz.jg r.data.toList=Lz.jg s.data.toList)/\Lib.IsBuilder 77 5 w.heap.size w.heap.size (Lib.byteCells out) wr/\Below w.heap.size w wr) (fun sv _ _ _ _ _ _ _=>match sv with| .string r=>r.size|_=>0)
 case atStart=>exact⟨s,[],rfl,rfl,V4,(Below.refl _ w).alloc (Nat.le_refl _) _⟩
 case round=>
  obtain⟨r,out,rfl,HO,hB,hb⟩:=hrel
  have ba:out.length+(r.size+2) / 3*4=(s.size+2) / 3*4:=by
   have:=congrArg List.length HO.out;rw[List.length_append,Lz.qm,Lz.qm,aa,aa]at this;exact this
  have ju:=HS.out;have hob:out.length<=1500000000:=by omega
  clear ba ju;by_cases h0:0<r.size
  ·have ed:r.toList.isEmpty=false:=qK h0
   go_wp2_with fail
   go_loop [4,5,15] (fun n _ k=>∃j:Nat,k=.int .i64 (j:Int)/\j<=3/\n=.int .u32 ((Lz.nR r.data.toList j:Nat):Int)) (fun _ _ k=>3-(intOf k).toNat)
   case atStart=>exact⟨0,rfl,by omega,rfl⟩
   case round=>
    obtain⟨j,rfl,hj,rfl⟩:=hrel;obtain⟨x,hx⟩:∃x,x=Lz.nR r.data.toList j:=⟨_,rfl⟩;have o7:=Lz.IK r.data.toList j;rw[<-hx]at o7⊢;by_cases aV:j<3
    ·have bW:(j:Int)<3:=by omega
     have pY:x<65536:=by
      obtain rfl|rfl|rfl:j=0\/j=1\/j=2:=by omega
      all_goals omega
     obtain⟨y0,VS⟩:∃y,y=x*256:=⟨_,rfl⟩;have fw:IntKind.u32.wrap ((x:Int)*256)=(y0:Int):=by rw[show(x:Int)*256=(y0:Int) by omega];exact IntWalk.u32_in _ (by omega)
     by_cases Wq:j<r.size
     ·have hjI:(j:Int)<(r.size:Int):=by omega
      obtain⟨c,hc⟩:∃c,c=r[j]:=⟨_,rfl⟩;have pJ:(r[j].toNat:Int)=(c.toNat:Int):=by rw[hc]
      have vp:=c.toNat_lt;have fc:IntKind.u32.wrap (c.toNat:Int)=(c.toNat:Int):=IntWalk.u32_in _ (by omega);obtain⟨y,hy⟩:∃y,y=y0+c.toNat:=⟨_,rfl⟩;have fo:bits .or .u32 (y0:Int) (c.toNat:Int)=(y:Int):=by rw[hy];exact Vn y0 c.toNat (by omega) (by omega) (by omega)
      have HN:Hid (Lz.nR r.data.toList (j+1)=y):=by
       show _=_;rw[Lz.nR,<-hx,hy,VS,hc,List.getD_eq_getElem?_getD,aB Wq];rfl
      clear hx hc hy VS
      go_wp2_with fail
      go_round
      case rel=>exact⟨j+1,by go_num,by omega,by rw[HN.out]⟩
      case measure=>simp[intOf];omega
     ·have hjI:¬(j:Int)<(r.size:Int):=by omega
      have HN:Hid (Lz.nR r.data.toList (j+1)=y0):=by
       show _=_;rw[Lz.nR,<-hx,VS,List.getD_eq_getElem?_getD,List.getElem?_eq_none (by rw[aa];omega)];rfl
      clear hx VS
      go_wp2_with fail
      go_round
      case rel=>exact⟨j+1,by go_num,by omega,by rw[HN.out]⟩
      case measure=>simp[intOf];omega
    ·obtain rfl:j=3:=by omega
     have Hx:=Ih hx;clear hx
     go_wp2_with fail
     go_loopw [6,7,31] (fun _ _ k wx=>∃j:Nat,k=.int .i64 (j:Int)/\j<=4/\Lib.IsBuilder 77 5 w.heap.size w.heap.size (Lib.byteCells (out++Lz.nw r.data.toList j)) wx/\Below w.heap.size w wx) (fun _ _ k _=>4-(intOf k).toNat)
     case atStart=>exact⟨0,rfl,by omega,by rw[show Lz.nw r.data.toList 0=[]from rfl,List.append_nil];exact hB,hb⟩
     case round=>
      obtain⟨j,rfl,hj,hB,hb⟩:=hrel;by_cases aV:j<4
      ·have bW:(j:Int)<4:=by omega
       have hEl:(Lz.nw r.data.toList j).length=j:=by unfold Lz.nw;rw[List.length_map,List.length_range]
       obtain⟨d,hd⟩:∃d,d=x / 2^(18-6*j)%64:=⟨_,rfl⟩;have ack:d<64:=by rw[hd];exact Nat.mod_lt _ (by decide)
       have hdI:(0:Int)<=(d:Int)/\(d:Int)<64:=by omega
       have fa:bits .and .u32 ((x:Int) / 2^(18-6*j)) 63=(d:Int):=by
        rw[hd,<-UD _ (Nat.lt_of_le_of_lt (Nat.div_le_self _ _) (by omega))]
        simp
       obtain⟨lt,oY⟩:∃c,c=Lz.b64.getD d 0:=⟨_,rfl⟩;have zk:∀h',(⟨#[65,66,67,68,69,70,71,72,73,74,75,76,77,78,79,80,81,82,83,84,85,86,87,88,89,90,97,98,99,100,101,102,103,104,105,106,107,108,109,110,111,112,113,114,115,116,117,118,119,120,121,122,48,49,50,51,52,53,54,55,56,57,43,47]⟩:ByteArray)[d]'h'=lt:=fun h'=>by rw[oY];exact Vr d ack
       have HC:Hid (lt=Lz.AA (Lz.nR r.data.toList 3 / 2^(18-6*j))):=by
        show _=_;rw[<-Hx.out,oY,hd];rfl
       clear hd oY;by_cases hgt:r.size<j
       ·have HE:Hid (Lz.nw r.data.toList (j+1)=Lz.nw r.data.toList j++[61]):=by
         show _=_;rw[Lz.Ae];unfold Lz.FJ;rw[if_pos (by rw[aa];exact hgt)]
        clear hdI
        go_wp2_with fail
        refine(gO w.heap.size w.heap.size _ _ wr hB (by simp[Lib.byteCells];omega) hb.size).mono ?_;rintro e w2 ⟨rfl,hm,az⟩
        have jy:Lib.IsBuilder 77 5 w.heap.size w.heap.size (Lib.byteCells (out++Lz.nw r.data.toList (j+1))) w2:=by
         rw[HE.out,<-List.append_assoc,<-gh];exact hm
        have aO:=hb.trans az;clear hm az hB hb
        go_wp2_with fail
        go_roundw
        case rel=>exact⟨j+1,by go_num,by omega,jy,aO⟩
        case measure=>simp[intOf];omega
       ·have HE:Hid (Lz.nw r.data.toList (j+1)=Lz.nw r.data.toList j++[lt]):=by
         show _=_;rw[Lz.Ae];unfold Lz.FJ;rw[if_neg (by rw[aa];exact hgt)];rw[HC.out]
        clear HC
        go_wp2_with fail
        refine(gO w.heap.size w.heap.size _ _ wr hB (by simp[Lib.byteCells];omega) hb.size).mono ?_;rintro e w2 ⟨rfl,hm,az⟩
        have jy:Lib.IsBuilder 77 5 w.heap.size w.heap.size (Lib.byteCells (out++Lz.nw r.data.toList (j+1))) w2:=by
         rw[HE.out,<-List.append_assoc,<-gh];exact hm
        have aO:=hb.trans az;clear hm az hB hb
        go_wp2_with fail
        go_roundw
        case rel=>exact⟨j+1,by go_num,by omega,jy,aO⟩
        case measure=>simp[intOf];omega
      ·obtain rfl:j=4:=by omega
       have hd3:(r.extract (min 3 (r.size:Int)).toNat r.size).data.toList=r.data.toList.drop 3:=by
        have hl:=aa r;by_cases h3:3<=r.size
        ·rw[show(min 3 (r.size:Int)).toNat=3 by omega]
         simp[ByteArray.data_extract]
         rw[List.take_of_length_le (by rw[List.length_drop,hl];exact Nat.le_refl _)]
        ·rw[show(min 3 (r.size:Int)).toNat=r.size by omega,List.drop_eq_nil_iff.2 (by omega)]
         simp
       have hHE:(out++Lz.nw r.data.toList 4)++Lz.jg (r.extract (min 3 (r.size:Int)).toNat r.size).data.toList=Lz.jg s.data.toList:=by
        rw[hd3,List.append_assoc,<-Lz.Ek _ (fun e=>by have:=aa r;rw[e]at this;simp at this;omega),HO.out]
       have hme:(r.extract (min 3 (r.size:Int)).toNat r.size).size<r.size:=by rw[ByteArray.size_extract];omega
       have HHE:=Ih hHE;have Hme:=Ih hme;clear hd3 hHE hme
       go_wp2_with fail
       exact⟨⟨_,out++Lz.nw r.data.toList 4,rfl,HHE,hB,hb⟩,Hme.out⟩
  ·have ed:r.toList.isEmpty=true:=oQ (by omega)
   have HF:Hid (out=Lz.jg s.data.toList):=by
    show _=_;rw[<-HO.out,List.length_eq_zero_iff.1 (show r.data.toList.length=0 by rw[aa];omega)]
    simp[Lz.jg]
   go_wp2_with fail
   refine(Tryz.Builder_String_any _ _ _ _ hB hb.size).mono ?_;rintro e w5 ⟨rfl,aI⟩
   go_wp2_with fail
   go_ret;exact⟨_,rfl,Ih HF.out,hb.trans aI⟩
def brL:List UInt8:=(List.range 256).map fun k=>Lz.nX (UInt8.ofNat k)
def kt (w:World) (g:Nat):Prop:=w.heap[g]? =some (.cells (u8s brL).toArray 211 (0,0))
theorem kt.kept {w w':World} {g:Nat} (h:kt w g) (hk:∀(k:Nat) (cs:Array Value) (t:TypeId),w.heap[k]? =some (.cells cs t (0,0))->t=211->w'.heap[k]? =w.heap[k]?):kt w' g:=by
 unfold kt at h⊢;rw[hk g _ _ h rfl];exact h
theorem kt.set {w:World} {g b:Nat} {d s e:Int} {rv ov:Value} (h:kt w g) (hr:bP w b d s e rv ov) (k:Nat) (v:Value):kt (w.setCell ⟨b,k,none⟩ v) g:=
 h.kept fun j _ _ hj ht=>dE (fun e=>by
  have e':j=b:=e;rw[e',show w.heap[b]? =_ from hr]at hj;injection hj with hj
  injection hj with _ h2 _
  rw[ht]at h2;exact absurd h2 (by decide)) v
def nf (B b:Nat) (d s e:Int) (w:World) (w':World):Prop:=Below B w w'/\∃g,bP w' b d s e (.iface 212 (.pointer (some ⟨g,0,none⟩))) (.slice none 0 0)/\kt w' g
theorem Zn (B b:Nat) (e:Int) (rv ov:Value) (w:World) (tK:B<=b) (aZ:bP w b 0 0 e rv ov)
  (cB:∀W,Below B w W->W=w.setCell ⟨b,1,none⟩ (.int .i32 1)->Calls Tryz.prog 86 #[.pointer (some ⟨b,0,none⟩)] W fun e' W'=>e'=.returned (.tuple #[])/\nf B b 0 1 e W W'):
  Calls Tryz.prog 130 #[.pointer (some ⟨b,0,none⟩),.func (.func 86) #[.pointer (some ⟨b,0,none⟩)] #[]] w fun e' w'=>e'=.returned (.tuple #[])/\nf B b 1 0 e w w':=by
 have c0:=rowAt aZ 0 (.int .u32 0) rfl;have c1:=rowAt aZ 1 (.int .i32 0) rfl;have f0:=bE aZ 0;have f1:=bE aZ 1;have hl:=run_call_load (P:=Tryz.prog) Tryz.func160 (by kernel_rfl) (by kernel_rfl) (by kernel_rfl) .u32 (by kernel_rfl) (w:=w.setCell ⟨b,1,none⟩ (.int .i32 1)) (a:=⟨b,0,none⟩) (x:=0) ((World.cell?_setCell_other _ ⟨b,1,none⟩ ⟨b,0,none⟩ _ (by simp)).trans c0);have Xa:∀(x:Bool) (w:World),(Op.unary .not (.bool x)).run Tryz.prog w=.ok (.bool (!x)) w:=fun _ _=>rfl;have ar:Below B w (w.setCell ⟨b,1,none⟩ (.int .i32 1)):=(Below.refl B w).setCell (p:=⟨b,1,none⟩) tK _;have CB:=Ih (cB _ ar rfl);have Hb1:=Ih ar;clear cB ar
 go_enter_defers Tryz.func130,Tryz.ntmps130
 go_wp2_with (first |(go_at_call 161;refine(SW ⟨b,1,none⟩ _ (by go_simp) (by go_simp)).mono ?_;rintro e w' ⟨rfl,rfl⟩)|(go_at_call 129;go_in)|(go_at_call 86;refine CB.out.mono ?_;rintro e2 w2 ⟨rfl,uM⟩))
 obtain⟨aK,g,bB,vq⟩:=uM;have d0:=rowAt bB 0 (.int .u32 0) rfl;have d1:=rowAt bB 1 (.int .i32 1) rfl;have z0:=bE bB 0;have z1:=bE bB 1;have oZ:bP (w2.drew.setCell ⟨b,0,none⟩ (.int .u32 1)) b 1 1 e (.iface 212 (.pointer (some ⟨g,0,none⟩))) (.slice none 0 0):=bP.set (w:=w2.drew) bB 0 (.int .u32 1) (by simp);have o8:kt (w2.drew.setCell ⟨b,0,none⟩ (.int .u32 1)) g:=kt.set (w:=w2.drew) (vq.kept fun _ _ _ _ _=>rfl) bB 0 _;have Co:=bP.set oZ 1 (.int .i32 0) (d':=1) (s':=0) (rv':=.iface 212 (.pointer (some ⟨g,0,none⟩))) (ov':=.slice none 0 0) (by simp);have Pn:=kt.set o8 oZ 1 (.int .i32 0);refine leaves_cons (f:=163) (args:= #[.pointer (some ⟨b,0,none⟩),.bool true]) (by simp) (by simp[go_sem]) ?_;refine(Nv ⟨b,0,none⟩ (.int .u32 0) .returning _ d0 z0).mono ?_;rintro e3 u3 w3 ⟨rfl,rfl,rfl⟩;refine leaves_cons (f:=162) (args:= #[.pointer (some ⟨b,1,none⟩)]) (by simp[settle]) (by simp[go_sem]) ?_;refine(Jh ⟨b,1,none⟩ _ _ (rowAt oZ 1 _ rfl) (bE oZ 1)).mono ?_;rintro e3 u3 w3 ⟨rfl,rfl,rfl⟩
 have Wa:Below B w ((w2.drew.setCell ⟨b,0,none⟩ (.int .u32 1)).setCell ⟨b,1,none⟩ (.int .i32 0)):=((Hb1.out.trans aK).drew.setCell (p:=⟨b,0,none⟩) tK _).setCell (p:=⟨b,1,none⟩) tK _;have HF:Hid (nf B b 1 0 e w ((w2.drew.setCell ⟨b,0,none⟩ (.int .u32 1)).setCell ⟨b,1,none⟩ (.int .i32 0))):=⟨Wa,g,Co,Pn⟩;clear bB oZ Co vq o8 Pn Wa
 simp[Leaves,settle,results,Tryz.results130]
 exact HF.out
theorem doP (B b:Nat) (e:Int) (rv ov:Value) (w:World) (tK:B<=b) (aZ:bP w b 0 0 e rv ov)
  (cB:∀W,Below B w W->W=w.setCell ⟨b,1,none⟩ (.int .i32 1)->Calls Tryz.prog 86 #[.pointer (some ⟨b,0,none⟩)] W fun e' W'=>e'=.returned (.tuple #[])/\nf B b 0 1 e W W'):
  Calls Tryz.prog 85 #[.pointer (some ⟨b,0,none⟩),.func (.func 86) #[.pointer (some ⟨b,0,none⟩)] #[]] w fun e' w'=>e'=.returned (.tuple #[])/\nf B b 1 0 e w w':=by
 have c0:=rowAt aZ 0 (.int .u32 0) rfl;have hl:=run_call_load (P:=Tryz.prog) Tryz.func160 (by kernel_rfl) (by kernel_rfl) (by kernel_rfl) .u32 (by kernel_rfl) c0;have Xa:∀(x:Bool) (w:World),(Op.unary .not (.bool x)).run Tryz.prog w=.ok (.bool (!x)) w:=fun _ _=>rfl;have cS:=Ih (Zn B b e rv ov w tK aZ cB);clear cB;go_enter Tryz.func85,Tryz.ntmps85
 go_wp2_with (first |(go_at_call 130;refine cS.out.mono ?_;rintro e w' ⟨rfl,uM⟩)|(go_at_call 129;go_in))
 go_end0
 exact⟨rfl,uM⟩
def rsP:List ByteArray:=[⟨#[45]⟩,⟨#[43]⟩,⟨#[95]⟩,⟨#[47]⟩]
def Y1 (B:Nat) (w:World) (e:Ending) (w':World):Prop:=∃b G c,e=.returned (.pointer (some ⟨b,0,none⟩))/\B<=b/\bP w' b 0 0 0 .nilIface (.slice (some ⟨G,0,none⟩) 4 c)/\w'.ownsRow B 9 1 (.slice (some ⟨G,0,none⟩) 4 c) 4 (rsP.map Value.string)/\Below w.heap.size w w'
theorem J3 (B:Nat) (p:Addr) (c:Nat) (w:World) (hB:B<=w.heap.size) (hc:∀(j:Nat) (u:Value),(rsP.map Value.string)[j]? =some u->w.cell? (p.add j)=some u):
  Calls Tryz.prog 52 #[.slice (some p) 4 c] w (Y1 B w):=by
 obtain⟨i0,hi,fI,ei,eM⟩:=info_parts fS;have Hc:=Ih hc;clear hc;go_enter Tryz.func52,Tryz.ntmps52
 go_wp2_with (at_builtin;refine wpList_append_own _ rfl (.const (.slice none 0 0)) (.tmp 8) 30 rfl B 9 i0 (.string ⟨#[]⟩) 1 16 Tryz.underlying30 hi fI ei eM rfl (by decide) _ 0 [] rfl (World.ownsRow_nil _ B _ _) p 4 c (rsP.map Value.string) rfl rfl Hc.out (by decide) (by unfold maxLen;omega) (by omega) (by omega) ?_)
 intro v' w' au hg qT;have hb:Below w.heap.size w w':=(Below.refl _ w).grown hg (Nat.le_refl _) (fun k hk=>by simp[Value.ownBlock]at hk);have hP:aL w' B v' rsP:=.inl au;obtain⟨a',c',hv',_,aA⟩:=hP.form;have je:v'=.slice a' 4 c':=hv';subst je;obtain⟨G,off,rfl,_,_⟩:=aA 0 ⟨#[45]⟩ rfl
 have Wp:off=0:=by
  rcases au.2 with⟨h,_⟩|⟨g,cap,dB,h,_⟩
  ·cases h
  ·injection h with h _ _;injection h with h;injection h with h1 h2 _
 subst Wp;have ew:Hid (w'.ownsRow B 9 1 (.slice (some ⟨G,0,none⟩) 4 c') 4 (rsP.map Value.string)):=Ih au;have hwz:=hb.size;clear au hg hP aA qT hv'
 go_wp2_with fail
 go_ret;refine⟨_,G,c',rfl,by omega,?_,ew.out.alloc _,ac hb ((Below.refl _ _).alloc (Nat.le_refl _) _)⟩;show(w'.heap.push _)[w'.heap.size]? =_
 simp
theorem YS (W:World):(Instr.index 9 (.string ⟨#[95]⟩) (.int .i64 0)).run Tryz.prog W=.ok (.int .u8 95) W:=by kernel_rfl
theorem Y7 (W:World):(Instr.index 9 (.string ⟨#[47]⟩) (.int .i64 0)).run Tryz.prog W=.ok (.int .u8 47) W:=by kernel_rfl
theorem Zc (W:World):(Instr.index 9 (.string ⟨#[45]⟩) (.int .i64 0)).run Tryz.prog W=.ok (.int .u8 45) W:=by kernel_rfl
theorem YV (W:World):(Instr.index 9 (.string ⟨#[43]⟩) (.int .i64 0)).run Tryz.prog W=.ok (.int .u8 43) W:=by kernel_rfl
theorem Mi:Tryz.zeroCells211=Array.replicate 256 (.int .u8 0):=by kernel_rfl
theorem U7:(Tryz.prog.info? 211).map (·.size)=some 256:=by kernel_rfl
def idL (k:Nat):List UInt8:=(List.range k).map UInt8.ofNat++List.replicate (256-k) 0
theorem RK (k:Nat) (hk:k<256):(u8s (idL k)).toArray.setIfInBounds k (.int .u8 (k:Int))=(u8s (idL (k+1))).toArray:=by
 rw[List.setIfInBounds_toArray];congr 1;have hv:(Value.int .u8 (k:Int))=.int .u8 ((UInt8.ofNat k).toNat:Int):=by rw[UInt8.toNat_ofNat',Nat.mod_eq_of_lt (show k<2^8 by omega)]
 unfold u8s idL;rw[hv,<-List.map_set (f:=fun c:UInt8=>Value.int .u8 c.toNat),List.set_append_right _ _ (by rw[List.length_map,List.length_range];exact Nat.le_refl _),List.length_map,List.length_range,Nat.sub_self,show 256-k=(256-(k+1))+1 by omega,List.replicate_succ,List.set_cons_zero,List.range_succ,List.map_append (f:=UInt8.ofNat),List.append_assoc];rfl
theorem Qu (k:Nat) (hk:k<=256):(idL k).length=256:=by
 unfold idL;rw[List.length_append,List.length_map,List.length_range,List.length_replicate];omega
theorem Rp:(((u8s (idL 256)).toArray.setIfInBounds 95 (.int .u8 47)).setIfInBounds 45 (.int .u8 43))=(u8s brL).toArray:=by
 have h:((idL 256).set 95 47).set 45 43=brL:=by decide +kernel
 rw[<-h];unfold u8s;rw[List.setIfInBounds_toArray,List.setIfInBounds_toArray,List.map_set,List.map_set];rfl
def QM (w:World) (e:Ending) (w':World):Prop:=∃g,e=.returned (.iface 212 (.pointer (some ⟨g,0,none⟩)))/\Below w.heap.size w w'/\kt w' g
theorem FZ (B b:Nat) (e:Int) (G c:Nat) (w:World) (hr:bP w b 0 1 e .nilIface (.slice (some ⟨G,0,none⟩) 4 c)) (au:w.ownsRow B 9 1 (.slice (some ⟨G,0,none⟩) 4 c) 4 (rsP.map Value.string)):
  Calls Tryz.prog 131 #[.pointer (some ⟨b,0,none⟩)] w (QM w):=by
 have r4:=rowAt hr 4 (.slice (some ⟨G,0,none⟩) 4 c) rfl
 have IA:∀k x,rsP[k]? =some x->w.cell? ⟨G,k,none⟩=some (.string x):=fun k x hk=>by
  have:=au.cells (g:=G) rfl k (.string x) (by rw[List.getElem?_map,hk];rfl);rw[bV]at this;exact this
 have o0:=IA 0 ⟨#[45]⟩ rfl;have o1:=IA 1 ⟨#[43]⟩ rfl;have o2:=IA 2 ⟨#[95]⟩ rfl;have o3:=IA 3 ⟨#[47]⟩ rfl;have LM:G<w.heap.size:=World.block_lt_of_cell? _ _ o0;have O1:=Ih IA;clear au hr IA;go_enter Tryz.func131,Tryz.ntmps131
 go_wp2_with fail
 refine wp_loop_rounds 3 ?_;rw[rounds_succ]
 go_wp2_with fail
 rw[rounds_succ]
 go_wp2_with fail
 rw[rounds_succ];clear o0 o1 o2 o3 r4
 go_wp2_with (refine wpList_store_row rfl 211 (.tmp 6) (.tmp 60) rfl w.heap.size (Array.replicate 256 (.int .u8 0)) rfl (by rw[<-Mi];rfl) 211 Tryz.zeroCells211 (by show(w.heap.push _)[w.heap.size]? =_;simp) (by rw[Array.size_replicate];exact U7) (by rw[Mi]) (by kernel_rfl) ?_)
 have lk:((w.alloc (.cells Tryz.zeroCells211 211)).setRow w.heap.size (Array.replicate 256 (.int .u8 0))).heap[w.heap.size]? =some (.cells (u8s (idL 0)).toArray 211 (0,0)):=by
  rw[show(u8s (idL 0)).toArray=Array.replicate 256 (.int .u8 0) by kernel_rfl];exact setRow_heap _ _ Tryz.zeroCells211 _ _ _ (ah _ _)
 have ar:Below w.heap.size w ((w.alloc (.cells Tryz.zeroCells211 211)).setRow w.heap.size (Array.replicate 256 (.int .u8 0))):=aH ((Below.refl _ w).alloc (Nat.le_refl _) _) (Nat.le_refl _);generalize (w.alloc (.cells Tryz.zeroCells211 211)).setRow w.heap.size (Array.replicate 256 (.int .u8 0))=w1 at lk ar⊢;obtain⟨g0,Iy⟩:∃g,g=w.heap.size:=⟨_,rfl⟩;rw[<-Iy]at lk ar⊢;have hGg:G<g0:=by rw[Iy];exact LM
 have Hg0:=Ih Iy;clear Iy LM
 go_wp2_with fail
 go_loopw [7,61] (fun _ k wr=>∃i:Nat,k=.int .i64 i/\i<=256/\wr.heap[g0]? =some (.cells (u8s (idL i)).toArray 211 (0,0))/\Below g0 w wr) (fun _ k _=>256-(intOf k).toNat)
 case atStart=>exact⟨0,rfl,by omega,lk,ar⟩
 case round=>
  obtain⟨i,rfl,hi,hR,hb⟩:=hrel;clear lk ar;by_cases aV:i<256
  ·have bW:(i:Int)<256:=by omega
   have o9:(0:Int)<=(i:Int)/\(i:Int)<256:=by omega
   have fm:IntKind.u8.wrap (i:Int)=(i:Int):=IntWalk.u8_in _ (by omega);have fm2:(i:Int)%256=(i:Int):=by omega
   obtain⟨v,hv⟩:∃v,(u8s (idL i)).toArray[i]? =some v:=⟨_,Array.getElem?_eq_getElem (by rw[List.size_toArray,fQ,Qu _ hi];exact aV)⟩;have hc:=rowAt hR i v hv;have hf:=bE hR i;have nO:=g9 hR i (.int .u8 (i:Int)) (RK i aV);have az:=hb.setCell (p:=⟨g0,i,none⟩) (Nat.le_refl _) (.int .u8 (i:Int));clear hv
   go_wp2_with fail
   go_roundw
   case rel=>exact⟨i+1,by go_num,by omega,nO,az⟩
   case measure=>simp[intOf];omega
  ·obtain rfl:i=256:=by omega
   have bW:¬(((256:Nat):Int)<256):=by omega
   have c2:wr.cell? ⟨G,2,none⟩=some (.string ⟨#[95]⟩):=by rw[hb.cell (p:=⟨G,2,none⟩) hGg];exact O1.out 2 ⟨#[95]⟩ rfl
   have c3:wr.cell? ⟨G,3,none⟩=some (.string ⟨#[47]⟩):=by rw[hb.cell (p:=⟨G,3,none⟩) hGg];exact O1.out 3 ⟨#[47]⟩ rfl
   have abT:=fun W:World=>YS W;have ab6:=fun W:World=>Y7 W;have abU:=fun W:World=>Zc W;have acv:=fun W:World=>YV W;have hc:=rowAt hR 95 (.int .u8 95) (by kernel_rfl);have hf:=bE hR 95;have nO:(wr.setCell ⟨g0,95,none⟩ (.int .u8 47)).heap[g0]? =some (.cells ((u8s (idL 256)).toArray.setIfInBounds 95 (.int .u8 47)) 211 (0,0)):=g9 hR 95 (.int .u8 47) rfl;have az:=hb.setCell (p:=⟨g0,95,none⟩) (Nat.le_refl _) (.int .u8 47)
   go_wp2_with fail
   refine wp_loop_rounds 3 ?_;rw[rounds_succ]
   go_wp2_with fail
   generalize wr.setCell ⟨g0,95,none⟩ (.int .u8 47)=w2 at nO az⊢;clear c2 c3 hc hf hR hb;have c0:w2.cell? ⟨G,0,none⟩=some (.string ⟨#[45]⟩):=by rw[az.cell (p:=⟨G,0,none⟩) hGg];exact O1.out 0 ⟨#[45]⟩ rfl
   have c1:w2.cell? ⟨G,1,none⟩=some (.string ⟨#[43]⟩):=by rw[az.cell (p:=⟨G,1,none⟩) hGg];exact O1.out 1 ⟨#[43]⟩ rfl
   have hc:=rowAt nO 45 (.int .u8 45) (by kernel_rfl);have hf:=bE nO 45;have AO:=g9 nO 45 (.int .u8 43) Rp;have aO:=az.setCell (p:=⟨g0,45,none⟩) (Nat.le_refl _) (.int .u8 43);rw[rounds_succ]
   go_wp2_with fail
   generalize w2.setCell ⟨g0,45,none⟩ (.int .u8 43)=w3 at AO aO⊢;clear c0 c1 hc hf nO az;rw[rounds_succ]
   go_wp2_with fail
   go_ret;exact⟨g0,rfl,Hg0.out▸aO,AO⟩
theorem Ri (B b:Nat) (e:Int) (G c:Nat) (w:World) (tK:B<=b) (hr:bP w b 0 1 e .nilIface (.slice (some ⟨G,0,none⟩) 4 c)) (au:w.ownsRow B 9 1 (.slice (some ⟨G,0,none⟩) 4 c) 4 (rsP.map Value.string)) (hB:B<=w.heap.size):
  Calls Tryz.prog 86 #[.pointer (some ⟨b,0,none⟩)] w fun e' w'=>e'=.returned (.tuple #[])/\nf B b 0 1 e w w':=by
 have cB:=Ih (FZ B b e G c w hr au);have HR:=Ih hr;have VK:b<w.heap.size:=af hr;clear hr au;go_enter Tryz.func86,Tryz.ntmps86
 go_wp2_with fail
 refine cB.out.mono ?_;rintro e1 w1 ⟨g,rfl,ar,vq⟩;have bC:bP w1 b 0 1 e .nilIface (.slice (some ⟨G,0,none⟩) 4 c):=(ar.block b VK).trans HR.out;have c3:=rowAt bC 3 .nilIface rfl;have f3:=bE bC 3;have bB:=bP.set bC 3 (.iface 212 (.pointer (some ⟨g,0,none⟩))) (d':=0) (s':=1) (rv':=.iface 212 (.pointer (some ⟨g,0,none⟩))) (ov':=.slice (some ⟨G,0,none⟩) 4 c) (by simp);have yg:=kt.set vq bC 3 (.iface 212 (.pointer (some ⟨g,0,none⟩)));have c4:=rowAt bB 4 (.slice (some ⟨G,0,none⟩) 4 c) rfl;have f4:=bE bB 4;have oZ:=bP.set bB 4 (.slice none 0 0) (d':=0) (s':=1) (rv':=.iface 212 (.pointer (some ⟨g,0,none⟩))) (ov':=.slice none 0 0) (by simp);have o8:=kt.set yg bB 4 (.slice none 0 0);have pA:=((ar.mono hB).setCell (p:=⟨b,3,none⟩) tK (.iface 212 (.pointer (some ⟨g,0,none⟩)))).setCell (p:=⟨b,4,none⟩) tK (.slice none 0 0);have HF:Hid (nf B b 0 1 e w ((w1.setCell ⟨b,3,none⟩ (.iface 212 (.pointer (some ⟨g,0,none⟩)))).setCell ⟨b,4,none⟩ (.slice none 0 0))):=⟨pA,g,oZ,o8⟩;clear bC bB oZ vq yg o8 pA
 go_wp2_with fail
 go_end0
 exact⟨rfl,HF.out⟩
theorem Vg {w:World} {g:Nat} (h:kt w g) (c:UInt8):w.cell? ⟨g,c.toNat,none⟩=some (.int .u8 ((Lz.nX c).toNat:Int)):=by
 refine rowAt h c.toNat _ ?_;rw[List.getElem?_toArray];unfold u8s brL;have hc:c.toNat<256:=c.toNat_lt;rw[List.getElem?_map,List.getElem?_map,List.getElem?_range hc]
 simp
theorem QF {l:List UInt8} {i:Nat} {c:UInt8} (hc:l[i]? =some c) (h:Lz.nX c=c):Lz.dD (l.take (i+1))++l.drop (i+1)=Lz.dD (l.take i)++l.drop i:=by
 obtain⟨hi,rfl⟩:=List.getElem?_eq_some_iff.1 hc;rw[List.take_succ_eq_append_getElem hi,List.drop_eq_getElem_cons hi];unfold Lz.dD;rw[List.map_append,List.append_assoc,List.map_cons,List.map_nil,h];rfl
theorem Vm {l:List UInt8} {i:Nat} {c:UInt8} (hc:l[i]? =some c):(Lz.dD (l.take i)++l.drop i).set i (Lz.nX c)=Lz.dD (l.take (i+1))++l.drop (i+1):=by
 obtain⟨hi,rfl⟩:=List.getElem?_eq_some_iff.1 hc;have hl:(Lz.dD (l.take i)).length=i:=by unfold Lz.dD;rw[List.length_map,List.length_take];omega
 rw[List.set_append_right _ _ (by omega),hl,Nat.sub_self,List.drop_eq_getElem_cons hi,List.set_cons_zero,List.take_succ_eq_append_getElem hi];unfold Lz.dD;rw[List.map_append,List.append_assoc];rfl
def NN (l:List UInt8) (n H i:Nat) (v:Value) (wr:World):Prop:=(v=.slice none 0 0/\Lz.dD (l.take i)=l.take i)\/(∃g cap,v=.slice (some ⟨g,0,none⟩) n cap/\H<=g/\jA wr g (Lz.dD (l.take i)++l.drop i))
theorem RJ (g:Nat) (s:ByteArray) (hs:s.size<=1000000000) (w:World) (hb:kt w g):Calls Tryz.prog 336 #[.pointer (some ⟨g,0,none⟩),.string s] w (gJ (Lz.dD s.data.toList) w):=by
 have HB:=Ih hb;have hgl:g<w.heap.size:=af hb;obtain⟨l,hl⟩:∃l,l=s.data.toList:=⟨_,rfl⟩;have mS:l.length=s.size:=by rw[hl];exact aa s
 rw[<-hl];have HL:=Ih hl;have Ys:=Ih mS;clear hb hl mS;go_enter Tryz.func336,Tryz.ntmps336
 go_wp2_with fail
 go_loopw [5,6,7] (fun v k _ wr=>∃i:Nat,k=.int .i64 i/\i<=s.size/\NN l s.size w.heap.size i v wr/\Below w.heap.size w wr) (fun _ k _ _=>s.size-(intOf k).toNat)
 case atStart=>exact⟨0,rfl,by omega,Or.inl ⟨rfl,rfl⟩,Below.refl _ w⟩
 case round=>
  obtain⟨i,rfl,hi,hV,aK⟩:=hrel;by_cases aV:i<s.size
  ·have bW:(i:Int)<(s.size:Int):=by omega
   have o9:(0:Int)<=(i:Int):=by omega
   obtain⟨c,hc⟩:∃c,c=s[i]:=⟨_,rfl⟩;have TH:(s[i].toNat:Int)=(c.toNat:Int):=by rw[hc]
   have qg:l[i]? =some c:=by rw[HL.out,aB aV,hc]
   have Uc:(0:Int)<=(c.toNat:Int)/\(c.toNat:Int)<256:=by have:=c.toNat_lt;omega
   have Xz:∀W,Below w.heap.size w W->W.cell? ⟨g,c.toNat,none⟩=some (.int .u8 ((Lz.nX c).toNat:Int)):=fun W hW=>by rw[hW.cell (p:=⟨g,c.toNat,none⟩) hgl];exact Vg HB.out c
   clear hc;by_cases hu:Lz.nX c=c
   ·have bc:=Xz wr aK;rw[hu]at bc
    have HN:Hid (∀v,NN l s.size w.heap.size i v wr->NN l s.size w.heap.size (i+1) v wr):=by
     show ∀v,_;intro v hV;rcases hV with⟨h1,h2⟩|⟨g1,cap,h1,h2,h3⟩
     ·refine Or.inl ⟨h1,?_⟩;obtain⟨IB,rfl⟩:=List.getElem?_eq_some_iff.1 qg;rw[List.take_succ_eq_append_getElem IB];unfold Lz.dD at h2⊢;rw[List.map_append,h2,List.map_cons,hu];rfl
     ·exact Or.inr ⟨g1,cap,h1,h2,by rw[QF qg hu];exact h3⟩
    have HV:=Ih hV;clear hV Xz qg hu
    go_wp2_with fail
    go_roundw
    case rel=>exact⟨i+1,by go_num,by omega,HN.out _ HV.out,aK⟩
    case measure=>simp[intOf];omega
   ·have lj:=Vm qg;obtain⟨d,hd⟩:∃d,d=Lz.nX c:=⟨_,rfl⟩;rw[<-hd]at hu Xz lj
    have ed:((d.toNat:Int) != (c.toNat:Int))=true:=by
     rw[bne_iff_ne];intro e;exact hu (UInt8.toNat_inj.1 (by omega))
    have LG:=Ih lj;have bc:=Xz wr aK;clear hd hu lj qg;rcases hV with⟨rfl,h2⟩|⟨g1,cap,rfl,h2,h3⟩
    ·have qT:=Lib.run_eql_slice_nil (P:=Tryz.prog) wr 75 5 none 0 0 0 0 Tryz.underlying75;have kb:=run_bytes_of_string (P:=Tryz.prog) wr 9 75 5 s Tryz.underlying9 Tryz.underlying75 Tryz.underlying5;have ln:=rz wr s (grownCap wr s.size 0 5) 5;obtain⟨cap,iW⟩:∃cap,cap=grownCap wr s.size 0 5:=⟨_,rfl⟩;rw[<-iW]at kb ln;clear iW;rw[<-HL.out,show l=Lz.dD (l.take i)++l.drop i by rw[h2,List.take_append_drop]]at ln;have Qf:Below w.heap.size w (wr.alloc (.cells (bytesRow s cap) 5 ((bytesRow s cap).size,(bytesRow s cap).size+1))).drew:=(aK.alloc aK.size _).drew;obtain⟨W5,hW5⟩:∃W,W=wr.drew.alloc (.cells (bytesRow s cap) 5 ((bytesRow s cap).size,(bytesRow s cap).size+1)):=⟨_,rfl⟩;have Qf:Below w.heap.size w W5:=by rw[hW5];exact Qf
     have ln:jA W5 wr.heap.size (Lz.dD (l.take i)++l.drop i):=by rw[hW5];exact ln
     rw[<-hW5]at kb;obtain⟨x0,iB⟩:∃x,(Lz.dD (l.take i)++l.drop i)[i]? =some x:=⟨_,List.getElem?_eq_getElem (by rw[h2,List.take_append_drop,Ys.out];exact aV)⟩;obtain⟨hc5,hf5⟩:=ln i x0 iB;have ab4:=Xz W5 Qf;have HR:=Ih (ln.set i d);rw[LG.out]at HR;have HB6:=Ih (Qf.setCell (p:=⟨wr.heap.size,i,none⟩) aK.size (.int .u8 (d.toNat:Int)));have Ym:=aK.size;clear ln Qf hW5 h2 Xz iB
     go_wp2_with fail
     go_roundw
     case rel=>exact⟨i+1,by go_num,by omega,Or.inr ⟨wr.heap.size,cap,rfl,Ym,HR.out⟩,HB6.out⟩
     case measure=>simp[intOf];omega
    ·have qT:=Lib.run_eql_slice_nil (P:=Tryz.prog) wr 75 5 (some ⟨g1,0,none⟩) s.size cap 0 0 Tryz.underlying75
     have IB:i<(Lz.dD (l.take i)++l.drop i).length:=by
      unfold Lz.dD;rw[List.length_append,List.length_map,List.length_take,List.length_drop,Ys.out];omega
     obtain⟨x0,iB⟩:∃x,(Lz.dD (l.take i)++l.drop i)[i]? =some x:=⟨_,List.getElem?_eq_getElem IB⟩;obtain⟨hc5,hf5⟩:=h3 i x0 iB;have HR:=Ih (h3.set i d);rw[LG.out]at HR;have HB6:=Ih (aK.setCell (p:=⟨g1,i,none⟩) h2 (.int .u8 (d.toNat:Int)));clear h3 Xz IB iB
     go_wp2_with fail
     go_roundw
     case rel=>exact⟨i+1,by go_num,by omega,Or.inr ⟨g1,cap,rfl,h2,HR.out⟩,HB6.out⟩
     case measure=>simp[intOf];omega
  ·obtain rfl:i=s.size:=by omega
   have gH:l.take s.size=l:=List.take_of_length_le (by rw[Ys.out];exact Nat.le_refl _);have zu:l.drop s.size=[]:=List.drop_eq_nil_iff.2 (by rw[Ys.out];exact Nat.le_refl _);have bW:¬((s.size:Int)<(s.size:Int)):=by omega
   rcases hV with⟨rfl,h2⟩|⟨g1,cap,rfl,h2,h3⟩
   ·have qT:=Lib.run_eql_slice_nil (P:=Tryz.prog) wr 75 5 none 0 0 0 0 Tryz.underlying75;have HF:Hid (s.data.toList=Lz.dD l):=by show _=_;rw[<-HL.out,<-gH,h2,gH]
    clear gH zu h2
    go_wp2_with fail
    go_ret;exact⟨s,rfl,HF,aK⟩
   ·have qT:=Lib.run_eql_slice_nil (P:=Tryz.prog) wr 75 5 (some ⟨g1,0,none⟩) s.size cap 0 0 Tryz.underlying75;rw[gH,zu,List.append_nil]at h3;have Wu:(Lz.dD l).length=s.size:=by unfold Lz.dD;rw[List.length_map,Ys.out]
    have pJ:=run_convert_bytes_back (P:=Tryz.prog) wr 75 9 5 ⟨g1,0,none⟩ cap (Lz.dD l) Tryz.underlying75 Tryz.underlying5 Tryz.underlying9 (fun j hj=>by rw[bV];exact(h3 j _ (List.getElem?_eq_getElem hj)).1);rw[Wu]at pJ;clear gH zu h3 Wu
    go_wp2_with fail
    go_ret;exact⟨_,rfl,Ih rfl,aK⟩
theorem Lb (B b G c:Nat) (s:ByteArray) (hs:s.size<=1000000000) (w:World) (tK:B<=b) (hr:bP w b 0 0 0 .nilIface (.slice (some ⟨G,0,none⟩) 4 c)) (au:w.ownsRow B 9 1 (.slice (some ⟨G,0,none⟩) 4 c) 4 (rsP.map Value.string)) (hB:B<=w.heap.size):
  Calls Tryz.prog 53 #[.pointer (some ⟨b,0,none⟩),.string s] w fun e w'=>∃u:ByteArray,e=.returned (.string u)/\Hid (u.data.toList=Lz.dD s.data.toList)/\Below B w w':=by
 have dJ:=au.kept (bS w ⟨b,1,none⟩ (.int .i32 1)) (.inr (by
  simp[Value.ownBlock]
  intro e;rcases au.2 with⟨h,_⟩|⟨g1,cap,dB,h,_,hh,_⟩
  ·cases h
  ·injection h with h _ _;injection h with h;injection h with h1 _ _
   have h2:w.heap[b]? =_:=hr;rw[<-e,h1,hh]at h2;injection h2 with h2
   injection h2 with _ h3 _
   exact absurd h3 (by decide)))
 have cD:=Ih (doP B b 0 .nilIface (.slice (some ⟨G,0,none⟩) 4 c) w tK hr (fun W hW hWe=>by
  have bB:bP W b 0 1 0 .nilIface (.slice (some ⟨G,0,none⟩) 4 c):=by rw[hWe];exact bP.set hr 1 (.int .i32 1) (by simp)
  rw[<-hWe]at dJ;exact Ri B b 0 G c W tK bB dJ (Nat.le_trans hB hW.size)))
 have hmf:∀(fn:Fn) (first cap:Array Value) (w:World),(Instr.makeFunc fn first cap).run Tryz.prog w=.ok (.func fn first cap) w:=fun _ _ _ _=>rfl;clear au dJ hr;go_enter Tryz.func53,Tryz.ntmps53
 go_wp2_with fail
 refine cD.out.mono ?_;rintro e w1 ⟨rfl,ar,g,bC,vq⟩;have c3:=rowAt bC 3 (.iface 212 (.pointer (some ⟨g,0,none⟩))) rfl;have nu:∀w,(nilAhead 489 212 (.pointer (some ⟨g,0,none⟩)) "Replace").run Tryz.prog w=.ok (some false) w:=fun _=>by kernel_rfl
 have mU:∀w,(Go.method 489 212 (.pointer (some ⟨g,0,none⟩)) "Replace").run Tryz.prog w=.ok (336,.pointer (some ⟨g,0,none⟩)) w:=fun _=>by kernel_rfl
 have cR:=Ih (RJ g s hs w1 vq);clear bC vq
 go_wp2_with fail
 refine cR.out.mono ?_;rintro e w2 ⟨u,rfl,hu,az⟩
 go_wp2_with fail
 go_ret;exact⟨u,rfl,hu,ar.trans (az.mono (Nat.le_trans hB ar.size))⟩
theorem td (s:ByteArray) (hs:s.size<=1000000000) (w:World):Calls Tryz.prog 116 #[.string s] w (gJ (Lz.dD s.data.toList) w):=by
 have bc:∀(j:Nat) (x:Value),(rsP.map Value.string)[j]? =some x->(w.alloc (.cells #[.string ⟨#[45]⟩,.string ⟨#[43]⟩,.string ⟨#[95]⟩,.string ⟨#[47]⟩] 9)).cell? ((⟨w.heap.size,0,none⟩:Addr).add j)=some x:=by
  intro j x hj;rw[bV,World.cell?_alloc_mark];rw[<-Array.getElem?_toList];exact hj
 have cN:=Ih (J3 w.heap.size ⟨w.heap.size,0,none⟩ 4 _ (by simp) bc);clear bc;go_enter Tryz.func116,Tryz.ntmps116
 go_wp2_with fail
 refine cN.out.mono ?_;rintro e w2 ⟨b,G,c,rfl,tK,hr,au,az⟩;have Py:Below w.heap.size w w2:=((Below.refl _ w).alloc (Nat.le_refl _) _).trans (az.mono (by simp));have cR:=Ih (Lb w.heap.size b G c s hs w2 tK hr au Py.size);clear hr au
 go_wp2_with fail
 refine cR.out.mono ?_;rintro e w3 ⟨v,rfl,hv,aO⟩
 go_wp2_with fail
 go_ret;exact⟨v,rfl,hv,Py.trans aO⟩
attribute [local go_sem ↓] Go.wp_at_zero Go.wp_at_succ
structure Dk (H0 H1 H2 B:Nat):Prop where
 h01:H0≠H1
 h02:H0≠H2
 h12:H1≠H2
 l0:H0<B
 l1:H1<B
 l2:H2<B
structure gF (H0 H1 H2 B:Nat) (s:ByteArray) (f:Nat) (D:List ByteArray) (v u:Value) (W:World):Prop where
 s:W.heap[H0]? =some (.cells #[.string s] 9 (0,0))
 o:W.heap[H1]? =some (.cells #[v] 30 (0,0))
 f:W.heap[H2]? =some (.cells #[.int .i64 (f:Int)] 3 (0,0))
 own:W.ownsRow B 9 1 u D.length (D.map Value.string)
section
variable {H0 H1 H2 B f:Nat} {s:ByteArray} {D:List ByteArray} {v u:Value} {W:World}
theorem gF.below (h:gF H0 H1 H2 B s f D v u W) {W':World} (hb:Below W.heap.size W W'):gF H0 H1 H2 B s f D v u W':=
 ⟨(hb.block _ (af h.s)).trans h.s,(hb.block _ (af h.o)).trans h.o,(hb.block _ (af h.f)).trans h.f,bH h.own hb⟩
theorem gF.alloc (h:gF H0 H1 H2 B s f D v u W) (o:Obj):gF H0 H1 H2 B s f D v u (W.alloc o):=h.below ((Below.refl _ W).alloc (Nat.le_refl _) _)
theorem gF.grown (h:gF H0 H1 H2 B s f D v u W) {W':World} {p:ByteArray} {u2:Value} (hg:W.grownBy W' u.ownBlock) (hn:Dk H0 H1 H2 B) (ho:W'.ownsRow B 9 1 u2 (D.length+1) (D.map Value.string++[.string p])):gF H0 H1 H2 B s f (D++[p]) v u2 W':=by
 have hk:∀k,k<B->k<W.heap.size->W'.heap[k]? =W.heap[k]? :=fun k hk hl=>hg.block k hl (fun e=>by have:=(h.own.lt k e.symm).1;omega);exact⟨(hk _ hn.l0 (af h.s)).trans h.s,(hk _ hn.l1 (af h.o)).trans h.o,(hk _ hn.l2 (af h.f)).trans h.f,by rw[List.length_append,List.map_append];exact ho⟩
theorem uq {B k j n:Nat} {u x:Value} {xs:List Value} {e:TypeId} {W:World} (h:W.ownsRow B e 1 u n xs) (hk:k<B):(W.setCell ⟨k,j,none⟩ x).ownsRow B e 1 u n xs:=
 h.kept (bS W ⟨k,j,none⟩ x) (.inr (fun e=>by have:=(h.lt k e).1;omega))
theorem gF.put (h:gF H0 H1 H2 B s f D v u W) (x:Value) (hn:Dk H0 H1 H2 B):gF H0 H1 H2 B s f D x u (W.setCell ⟨H1,0,none⟩ x):=
 ⟨(heap_setCell_other _ _ _ _ _ hn.h01).trans h.s,fF h.o 0 x,(heap_setCell_other _ _ _ _ _ hn.h12.symm).trans h.f,uq h.own hn.l1⟩
theorem gF.move (h:gF H0 H1 H2 B s f D v u W) (k:Nat) (hn:Dk H0 H1 H2 B):gF H0 H1 H2 B s k D v u (W.setCell ⟨H2,0,none⟩ (.int .i64 (k:Int))):=
 ⟨(heap_setCell_other _ _ _ _ _ hn.h02).trans h.s,(heap_setCell_other _ _ _ _ _ hn.h12).trans h.o,fF h.f 0 _,uq h.own hn.l2⟩
end
theorem Jg (H H0 H1 H2 B:Nat) (s:ByteArray) (f:Nat) (D:List ByteArray) (v:Value) (B8:Nat) (ed:Dk H0 H1 H2 B) (Fw:H<=H1) (Fp:H<=H2) (ZS:H<=B) (hto:B8<=s.size) (hs:s.size<=1000000000) (hD:D.length<=1000000000) (W:World) (kl:gF H0 H1 H2 B s f D v v W) (hBU:B<=W.heap.size):
  Calls Tryz.prog 44 #[.int .i64 (B8:Int),.pointer (some ⟨H2,0,none⟩),.pointer (some ⟨H1,0,none⟩),.pointer (some ⟨H0,0,none⟩)] W fun e w'=>e=.returned (.tuple #[])/\Below H W w'/\∃v',gF H0 H1 H2 B s (B8+1) (if f<B8 then D++[s.extract f B8]else D) v' v' w':=by
 obtain⟨i0,hi,fI,ei,eM⟩:=info_parts fS;have Tt:H<=W.heap.size:=Nat.le_trans ZS hBU;have tL:=rowAt kl.f 0 (.int .i64 (f:Int)) rfl;obtain⟨D2,hD2⟩:∃D2,D2=if f<B8 then D++[s.extract f B8]else D:=⟨_,rfl⟩;rw[<-hD2];have Yx:=Ih hD2;clear hD2;obtain⟨U0,hU0⟩:∃U,U=W:=⟨_,rfl⟩;have hS:Hid (∀{D':List ByteArray} {v' u':Value} (U:World),gF H0 H1 H2 B s f D' v' u' U->Below H U0 U->(U.cell? ⟨H0,0,none⟩=some (.string s)/\U.cell? ⟨H2,0,none⟩=some (.int .i64 (f:Int)))/\Below H U0 U):=Ih (fun U h hb=>⟨⟨rowAt h.s 0 _ rfl,rowAt h.f 0 _ rfl⟩,hb⟩);have XE:Hid (∀{D':List ByteArray} {v' u':Value} (U:World),gF H0 H1 H2 B s f D' v' u' U->(U.cell? ⟨H0,0,none⟩=some (.string s)/\U.cell? ⟨H2,0,none⟩=some (.int .i64 (f:Int)))):=Ih (fun U h=>⟨rowAt h.s 0 _ rfl,rowAt h.f 0 _ rfl⟩);by_cases aV:f<B8
 ·have bW:(f:Int)<(B8:Int):=by omega
  have b1:(0:Int)<=(f:Int):=by omega
  have b2:(B8:Int)<=(s.size:Int):=by omega
  have b3:(f:Int)<=(B8:Int):=by omega
  obtain⟨p,hp⟩:∃p,s.extract f B8=p:=⟨_,rfl⟩;have HD:Hid (D2=D++[p]):=by show _=_;rw[Yx.out,if_pos aV,hp]
  have ku:Below H U0 W.drew:=by rw[hU0];exact(Below.refl _ _).drew
  have Tt:H<=U0.heap.size:=by rw[hU0];exact Tt
  have hBU:B<=U0.heap.size:=by rw[hU0];exact hBU
  have HU0:=Ih hU0;clear hU0;have aaM:gF H0 H1 H2 B s f D v v W.drew:=kl.below (Below.refl _ _).drew;go_enter Tryz.func44,Tryz.ntmps44
  go_upto_region 1 with fail
  replace kl:=aaM;refine wp_region_held_drew (S:=fun U=>(U.cell? ⟨H0,0,none⟩=some (.string s)/\U.cell? ⟨H2,0,none⟩=some (.int .i64 (f:Int)))/\Below H U0 U) (by kernel_rfl) (hS.out _ kl ku) (fun ae=>?_);generalize W.drew=W7 at ae kl⊢;apply TkG 1 9;apply TkG 2 10;apply TkG 3 11;apply TkG 4 12
  iterate 4 (rotate_right 2;(·(intro W aM;(try dsimp only at aM);(try simp only[Act.put]);(try simp only[List.setIfInBounds_toArray]);(try simp only[List.set_cons_zero,List.set_cons_succ]);go_simp;try with_reducible rfl)))
  (try simp only[Act.put]);(try simp only[List.setIfInBounds_toArray]);(try simp only[List.set_cons_zero,List.set_cons_succ])
  have oU:=ae;refine wpAnyH_ready (rs:=[0,5]) (by kernel_rfl) (by simp) ?_;refine AllReadyH.cons rfl (fun K hK=>?_) (AllReadyH.cons rfl (fun K hK=>?_) AllReadyH.nil)
  ·have pJ:=rowAt kl.o 0 v rfl;go_simp;refine hK.out _ _ ae (fun ae=>?_);clear hK K pJ
   (try simp only[Act.put]);(try simp only[List.setIfInBounds_toArray]);(try simp only[List.set_cons_zero,List.set_cons_succ])
   have oU:=ae;refine wpAnyH_ready (rs:=[5]) (by kernel_rfl) (by simp) ?_;refine AllReadyH.cons rfl (fun K hK=>?_) AllReadyH.nil;go_simp;refine hK.out _ _ (hS.out _ (kl.alloc (.cells #[.string p] 9)) (ae.2.alloc (Nat.le_trans Tt ae.2.size) _)) (fun ae=>?_);clear hK K;have sr:=bD W7 (.string p) 9;replace kl:=kl.alloc (.cells #[.string p] 9);have yA:B<=(W7.alloc (.cells #[.string p] 9)).heap.size:=Nat.le_trans (Nat.le_trans hBU oU.2.size) (by simp);generalize W7.heap.size=G0 at sr⊢;generalize W7.alloc (.cells #[.string p] 9)=W8 at ae kl sr yA⊢
   (try simp only[Act.put]);(try simp only[List.setIfInBounds_toArray]);(try simp only[List.set_cons_zero,List.set_cons_succ])
   have oU:=ae;refine wpAnyH_ready (rs:=[6]) (by kernel_rfl) (by simp) ?_;refine AllReadyH.cons rfl (fun K hK=>?_) AllReadyH.nil;rw[if_pos (by rfl)];refine wp_append_own W8 (.tmp 8) (.tmp 13) 30 rfl B 9 i0 (.string ⟨#[]⟩) 1 16 Tryz.underlying30 hi fI ei eM rfl (by decide) v D.length (D.map Value.string) rfl kl.own ⟨G0,0,none⟩ 1 1 [.string p] rfl rfl (fun j u hu=>sr j u hu) (by simp[Value.oneCell']) (by unfold maxLen;omega) (by omega) yA ?_;intro v2 W9 dJ Pg _
   obtain⟨g2,c2,rfl⟩:∃g2 c2,v2=.slice (some ⟨g2,0,none⟩) (D.length+1) c2:=by
    rcases dJ.2 with⟨_,h⟩|⟨g2,c2,_,h,_⟩
    ·omega
    ·exact⟨g2,c2,h⟩
   have gU:=kl.grown Pg ed dJ;have hB9:Below H U0 W9:=ae.2.grown Pg (Nat.le_trans Tt ae.2.size) (fun k hk=>Nat.le_trans ZS (kl.own.lt k hk).1);refine hK.out _ _ ⟨XE.out _ gU,hB9⟩ (fun ae=>?_);clear hK K sr dJ Pg kl
   (try simp only[Act.put]);(try simp only[List.setIfInBounds_toArray]);(try simp only[List.set_cons_zero,List.set_cons_succ])
   have oU:=ae;refine wpAnyH_ready (rs:=[7]) (by kernel_rfl) (by simp) ?_;refine AllReadyH.cons rfl (fun K hK=>?_) AllReadyH.nil;have iD:=rowAt gU.o 0 v rfl;have bU:=frozen_of_row _ _ 0 _ _ gU.o;go_simp;refine hK.out _ _ ⟨XE.out _ (gU.put _ ed),ae.2.setCell Fw _⟩ (fun ae=>?_);clear hK K iD bU;replace gU:=gU.put (.slice (some ⟨g2,0,none⟩) (D.length+1) c2) ed;generalize W9.setCell ⟨H1,0,none⟩ (.slice (some ⟨g2,0,none⟩) (D.length+1) c2)=W10 at ae gU⊢
   (try simp only[Act.put]);(try simp only[List.setIfInBounds_toArray]);(try simp only[List.set_cons_zero,List.set_cons_succ])
   refine wpAnyH_done (by kernel_rfl) ?_ _;have su:=rowAt gU.f 0 (.int .i64 (f:Int)) rfl;have ee:=frozen_of_row _ _ 0 _ _ gU.f;have E5:=gU.move (B8+1) ed;have sq:=ae.2.setCell (p:=⟨H2,0,none⟩) Fp (.int .i64 ((B8+1:Nat):Int))
   go_wp2_with fail
   go_end0
   exact⟨rfl,HU0.out▸sq,_,by rw[HD.out];exact E5⟩
  ·go_simp;refine hK.out _ _ (hS.out _ (kl.alloc (.cells #[.string p] 9)) (ae.2.alloc (Nat.le_trans Tt ae.2.size) _)) (fun ae=>?_);clear hK K;have sr:=bD W7 (.string p) 9;replace kl:=kl.alloc (.cells #[.string p] 9);have yA:B<=(W7.alloc (.cells #[.string p] 9)).heap.size:=Nat.le_trans (Nat.le_trans hBU oU.2.size) (by simp);generalize W7.heap.size=G0 at sr⊢;generalize W7.alloc (.cells #[.string p] 9)=W8 at ae kl sr yA⊢
   (try simp only[Act.put]);(try simp only[List.setIfInBounds_toArray]);(try simp only[List.set_cons_zero,List.set_cons_succ])
   have oU:=ae;refine wpAnyH_ready (rs:=[0]) (by kernel_rfl) (by simp) ?_;refine AllReadyH.cons rfl (fun K hK=>?_) AllReadyH.nil;have pJ:=rowAt kl.o 0 v rfl;go_simp;refine hK.out _ _ ae (fun ae=>?_);clear hK K pJ
   (try simp only[Act.put]);(try simp only[List.setIfInBounds_toArray]);(try simp only[List.set_cons_zero,List.set_cons_succ])
   have oU:=ae;refine wpAnyH_ready (rs:=[6]) (by kernel_rfl) (by simp) ?_;refine AllReadyH.cons rfl (fun K hK=>?_) AllReadyH.nil;rw[if_pos (by rfl)];refine wp_append_own W8 (.tmp 8) (.tmp 13) 30 rfl B 9 i0 (.string ⟨#[]⟩) 1 16 Tryz.underlying30 hi fI ei eM rfl (by decide) v D.length (D.map Value.string) rfl kl.own ⟨G0,0,none⟩ 1 1 [.string p] rfl rfl (fun j u hu=>sr j u hu) (by simp[Value.oneCell']) (by unfold maxLen;omega) (by omega) yA ?_;intro v2 W9 dJ Pg _
   obtain⟨g2,c2,rfl⟩:∃g2 c2,v2=.slice (some ⟨g2,0,none⟩) (D.length+1) c2:=by
    rcases dJ.2 with⟨_,h⟩|⟨g2,c2,_,h,_⟩
    ·omega
    ·exact⟨g2,c2,h⟩
   have gU:=kl.grown Pg ed dJ;have hB9:Below H U0 W9:=ae.2.grown Pg (Nat.le_trans Tt ae.2.size) (fun k hk=>Nat.le_trans ZS (kl.own.lt k hk).1);refine hK.out _ _ ⟨XE.out _ gU,hB9⟩ (fun ae=>?_);clear hK K sr dJ Pg kl
   (try simp only[Act.put]);(try simp only[List.setIfInBounds_toArray]);(try simp only[List.set_cons_zero,List.set_cons_succ])
   have oU:=ae;refine wpAnyH_ready (rs:=[7]) (by kernel_rfl) (by simp) ?_;refine AllReadyH.cons rfl (fun K hK=>?_) AllReadyH.nil;have iD:=rowAt gU.o 0 v rfl;have bU:=frozen_of_row _ _ 0 _ _ gU.o;go_simp;refine hK.out _ _ ⟨XE.out _ (gU.put _ ed),ae.2.setCell Fw _⟩ (fun ae=>?_);clear hK K iD bU;replace gU:=gU.put (.slice (some ⟨g2,0,none⟩) (D.length+1) c2) ed;generalize W9.setCell ⟨H1,0,none⟩ (.slice (some ⟨g2,0,none⟩) (D.length+1) c2)=W10 at ae gU⊢
   (try simp only[Act.put]);(try simp only[List.setIfInBounds_toArray]);(try simp only[List.set_cons_zero,List.set_cons_succ])
   refine wpAnyH_done (by kernel_rfl) ?_ _;have su:=rowAt gU.f 0 (.int .i64 (f:Int)) rfl;have ee:=frozen_of_row _ _ 0 _ _ gU.f;have E5:=gU.move (B8+1) ed;have sq:=ae.2.setCell (p:=⟨H2,0,none⟩) Fp (.int .i64 ((B8+1:Nat):Int))
   go_wp2_with fail
   go_end0
   exact⟨rfl,HU0.out▸sq,_,by rw[HD.out];exact E5⟩
 ·have bW:¬(f:Int)<(B8:Int):=by omega
  have HD:Hid (D2=D):=by show _=_;rw[Yx.out,if_neg aV]
  have ee:=frozen_of_row _ _ 0 _ _ kl.f;have E5:=kl.move (B8+1) ed;have sq:=(Below.refl H W).setCell (p:=⟨H2,0,none⟩) Fp (.int .i64 ((B8+1:Nat):Int));go_enter Tryz.func44,Tryz.ntmps44
  go_wp2_with fail
  go_end0
  exact⟨rfl,sq,v,by rw[HD.out];exact E5⟩
theorem Zq:∀c:UInt8,decide (0<=Lib.indexByte [9,10,12,13,32] c)=Lz.re c:=Lz.aJ (by decide +kernel)
theorem J4 (c:UInt8) (w:World):Calls Tryz.prog 45 #[.int .u8 (c.toNat:Int)] w fun e w'=>e=.returned (.bool (Lz.re c))/\w=w':=by
 have cI:=Ih (lI ⟨#[9,10,12,13,32]⟩ c w);have HS:=Ih (Zq c);go_enter Tryz.func45,Tryz.ntmps45
 go_wp2_with fail
 refine cI.out.mono ?_;rintro e w1 ⟨rfl,rfl⟩
 go_wp2_with fail
 go_ret;exact⟨by rw[<-HS.out];rfl,rfl⟩
def tZ (l:List UInt8) (i f:Nat) (D:List ByteArray):Prop:=f<=i/\D.length<=i/\∃Ds,Lz.xw (l.take i) Ds ((l.take i).drop f)/\D.map (fun x:ByteArray=>x.data.toList)=Ds.filter fun w=> !w.isEmpty
theorem Nj {s:ByteArray} {l:List UInt8} (hl:l=s.data.toList) (f i:Nat):(s.extract f i).data.toList=(l.take i).drop f:=by
 rw[hl]
 simp[ByteArray.data_extract,List.drop_take]
theorem Qo {l:List UInt8} {i f:Nat} (hi:i<=l.length):((l.take i).drop f).length=i-f:=by rw[List.length_drop,List.length_take];omega
theorem KN {l:List UInt8} {i f:Nat} (hi:i<=l.length):((l.take i).drop f).isEmpty= !decide (f<i):=by
 have:=Qo (f:=f) hi;by_cases h:f<i
 ·rw[decide_eq_true h];cases hc:(l.take i).drop f with
  | nil=>rw[hc]at this;simp at this;omega
  | cons _ _=>rfl
 ·rw[decide_eq_false h,List.length_eq_zero_iff.1 (show((l.take i).drop f).length=0 by omega)];rfl
theorem Av {s:ByteArray} {l:List UInt8} (hl:l=s.data.toList) {i f:Nat} (hi:i<=l.length) {D:List ByteArray} {Ds:List (List UInt8)} (h:D.map (fun x:ByteArray=>x.data.toList)=Ds.filter fun w=> !w.isEmpty):(if f<i then D++[s.extract f i]else D).map (fun x:ByteArray=>x.data.toList)=(Ds++[(l.take i).drop f]).filter fun w=> !w.isEmpty:=by
 rw[List.filter_append,List.filter_cons,KN hi,List.filter_nil,<-h];by_cases hf:f<i
 ·rw[if_pos hf,decide_eq_true hf,List.map_append,List.map_cons,List.map_nil,Nj hl];rfl
 ·rw[if_neg hf,decide_eq_false hf];simp
theorem Ao {l:List UInt8} {i:Nat} {c:UInt8} (hc:l[i]? =some c):l.take (i+1)=l.take i++[c]:=by rw[List.take_add_one,hc];rfl
theorem KV {s:ByteArray} {l:List UInt8} (hl:l=s.data.toList) {i f:Nat} {D:List ByteArray} {c:UInt8} (h:tZ l i f D) (hc:l[i]? =some c) (gT:Lz.re c=true):tZ l (i+1) (i+1) (if f<i then D++[s.extract f i]else D):=by
 obtain⟨h1,h2,Ds,Lu,tJ⟩:=h;have hi:i<l.length:=(List.getElem?_eq_some_iff.1 hc).1;refine⟨Nat.le_refl _,?_,Ds++[(l.take i).drop f],?_,Av hl (by omega) tJ⟩
 ·split
  ·simp;omega
  ·omega
 ·have e:(l.take (i+1)).drop (i+1)=[]:=List.drop_eq_nil_iff.2 (by rw[List.length_take];omega);rw[e,Ao hc];exact Lz.KU Lu gT
theorem Np {l:List UInt8} {i f:Nat} {D:List ByteArray} {c:UInt8} (h:tZ l i f D) (hc:l[i]? =some c) (gT:Lz.re c=false):tZ l (i+1) f D:=by
 obtain⟨h1,h2,Ds,Lu,tJ⟩:=h;have hi:i<l.length:=(List.getElem?_eq_some_iff.1 hc).1;refine⟨by omega,by omega,Ds,?_,tJ⟩;rw[Ao hc,List.drop_append_of_le_length (by rw[List.length_take];omega)];exact Lz.NH Lu gT
theorem QS {s:ByteArray} {l:List UInt8} (hl:l=s.data.toList) {f:Nat} {D:List ByteArray} (h:tZ l s.size f D):(if f<s.size then D++[s.extract f s.size]else D).map (fun x:ByteArray=>x.data.toList)=Lz.aG l:=by
 obtain⟨h1,h2,Ds,Lu,tJ⟩:=h;have mS:l.length=s.size:=by rw[hl];exact aa s
 rw[Av hl (by omega) tJ];rw[List.take_of_length_le (by omega)]at Lu⊢;rw[Lz.R5 Lu,List.filter_append];cases (l.drop f)<;>rfl
def Rn (l:List (List UInt8)) (w:World) (e:Ending) (w':World):Prop:=∃v,e=.returned v/\bd w' v l/\(∀a n c,v=.slice a n c->n<=c)/\(∀G off n c,v=.slice (some ⟨G,off,none⟩) n c->∃cs fr,w'.heap[G]? =some (.cells cs 9 fr))/\Below w.heap.size w w'
def U8 (l:List (List UInt8)) (w:World) (e:Ending) (w':World):Prop:=∃v,e=.returned v/\bd w' v l/\Below w.heap.size w w'
theorem tP (s:ByteArray) (hs:s.size<=1000000) (w:World):Calls Tryz.prog 21 #[.string s] w (Rn (Lz.aG s.data.toList) w):=by
 obtain⟨l,hl⟩:∃l,l=s.data.toList:=⟨_,rfl⟩;have mS:l.length=s.size:=by rw[hl];exact aa s
 rw[<-hl];have HL:=Ih hl;have Ys:=Ih mS;clear hl mS;obtain⟨W,hW⟩:∃W,W=((w.alloc (.cells #[.string s] 9)).alloc (.cells #[.slice none 0 0] 30)).alloc (.cells #[.int .i64 0] 3):=⟨_,rfl⟩;have aS:Below w.heap.size w W:=by rw[hW];exact(((Below.refl _ w).alloc (Nat.le_refl _) _).alloc (by simp) _).alloc (by simp;omega) _
 have qV:W.heap[w.heap.size]? =some (.cells #[.string s] 9 (0,0)):=by
  rw[hW,Below.heap_alloc _ _ _ (by simp;omega),Below.heap_alloc _ _ _ (by simp)];exact ah _ _
 have bC:W.heap[w.heap.size+1]? =some (.cells #[.slice none 0 0] 30 (0,0)):=by
  rw[hW,Below.heap_alloc _ _ _ (by simp)];exact dm _ _ _
 have bB:W.heap[w.heap.size+1+1]? =some (.cells #[.int .i64 0] 3 (0,0)):=by
  rw[hW];have:=ah ((w.alloc (.cells #[.string s] 9)).alloc (.cells #[.slice none 0 0] 30)) (.cells #[.int .i64 0] 3);simpa using this
 have yA:w.heap.size+1+1+1<=W.heap.size:=af bB;have HW:=Ih hW;clear hW;go_enter Tryz.func21,Tryz.ntmps21
 go_upto_region 4 with fail
 rw[<-HW.out];obtain⟨H0,hH0⟩:∃H,H=w.heap.size:=⟨_,rfl⟩;obtain⟨H1,Fw⟩:∃H,H=w.heap.size+1:=⟨_,rfl⟩;obtain⟨H2,Fp⟩:∃H,H=w.heap.size+1+1:=⟨_,rfl⟩;obtain⟨B,hB⟩:∃H,H=w.heap.size+1+1+1:=⟨_,rfl⟩;rw[<-Fp,<-Fw,<-hH0];rw[<-hB]at yA;rw[<-Fp]at bB;rw[<-Fw]at bC;rw[<-hH0]at qV;have ed:Dk H0 H1 H2 B:=⟨by omega,by omega,by omega,by omega,by omega,by omega⟩;have hC0:gF H0 H1 H2 B s 0 [] (.slice none 0 0) (.slice none 0 0) W:=⟨qV,bC,bB,World.ownsRow_nil _ _ _ _⟩;have pI:w.heap.size<=H1/\w.heap.size<=H2/\w.heap.size<=B:=by omega
 clear HW qV bC bB hH0 Fw Fp hB;have qP:=rowAt hC0.s 0 (.string s) rfl
 go_wp2_with fail
 clear qP
 go_loopw [6,10] (fun _ k wr=>∃(i f:Nat) (D:List ByteArray) (v:Value),k=.int .i64 i/\i<=s.size/\gF H0 H1 H2 B s f D v v wr/\Hid (tZ l i f D)/\Below w.heap.size w wr/\B<=wr.heap.size) (fun _ k _=>s.size-(intOf k).toNat)
 case atStart=>exact⟨0,0,[],_,rfl,by omega,hC0,⟨Nat.le_refl _,Nat.le_refl _,[],by rw[List.take_zero];exact Lz.JU,rfl⟩,aS,yA⟩
 case round=>
  obtain⟨i,f,D,v,rfl,hi,hC,hF,hb,Uk⟩:=hrel;clear hC0 aS yA;have hDl:D.length<=1000000000:=by have:=hF.out.2.1;omega
  have qP:=rowAt hC.s 0 (.string s) rfl;by_cases aV:i<s.size
  ·have bW:(i:Int)<(s.size:Int):=by omega
   have o9:(0:Int)<=(i:Int):=by omega
   obtain⟨c,hc⟩:∃c,c=s[i]:=⟨_,rfl⟩;have TH:(s[i].toNat:Int)=(c.toNat:Int):=by rw[hc]
   have qg:l[i]? =some c:=by rw[HL.out,aB aV,hc]
   have cS:=Ih (J4 c wr);clear hc;cases gT:Lz.re c with
   | true=>
     rw[gT]at cS;have HN:Hid (tZ l (i+1) (i+1) (if f<i then D++[s.extract f i]else D)):=KV HL.out hF.out qg gT;have cC:=Ih (Jg w.heap.size H0 H1 H2 B s f D v i ed pI.1 pI.2.1 pI.2.2 hi (by omega) hDl wr hC Uk);clear qg gT hC hF hDl
     go_wp2_with fail
     refine cS.out.mono ?_;rintro e w1 ⟨rfl,rfl⟩
     go_wp2_with fail
     refine cC.out.mono ?_;rintro e w2 ⟨rfl,az,v2,ZP⟩;have ab8:=Nat.le_trans Uk az.size;have aO:=hb.trans az
     go_wp2_with fail
     go_roundw
     case rel=>exact⟨i+1,i+1,_,v2,by go_num,by omega,ZP,HN,aO,ab8⟩
     case measure=>simp[intOf];omega
   | false=>
     rw[gT]at cS;have HN:Hid (tZ l (i+1) f D):=Np hF.out qg gT;clear qg gT hF hDl
     go_wp2_with fail
     refine cS.out.mono ?_;rintro e w1 ⟨rfl,rfl⟩
     go_wp2_with fail
     go_roundw
     case rel=>exact⟨i+1,f,D,v,by go_num,by omega,hC,HN,hb,Uk⟩
     case measure=>simp[intOf];omega
  ·obtain rfl:i=s.size:=by omega
   have bW:¬((s.size:Int)<(s.size:Int)):=by omega
   have HE:Hid ((if f<s.size then D++[s.extract f s.size]else D).map (fun x:ByteArray=>x.data.toList)=Lz.aG l):=QS HL.out hF.out;have cC:=Ih (Jg w.heap.size H0 H1 H2 B s f D v s.size ed pI.1 pI.2.1 pI.2.2 (Nat.le_refl _) (by omega) hDl wr hC Uk);clear hC hF hDl
   go_wp2_with fail
   refine cC.out.mono ?_;rintro e w2 ⟨rfl,az,v2,ZP⟩;have pJ:=rowAt ZP.o 0 v2 rfl
   go_wp2_with fail
   go_ret;obtain⟨a,c,hv,pI,aA⟩:=aL.form (.inl ZP.own)
   exact⟨v2,rfl,⟨a,c,_,hv,HE.out,aA⟩,(fun a' n' c' e=>by rw[hv]at e;injection e with _ e2 e3;omega),(fun G off n c e=>by
    rcases ZP.own.2 with⟨e1,_⟩|⟨g,cap,dB,e1,_,hg,_⟩
    ·rw[e1]at e;cases e
    ·rw[e1]at e;cases e;exact⟨_,_,hg⟩),hb.trans az⟩
theorem Gd (s:ByteArray) (hs:s.size<=1000000) (w:World):Calls Tryz.prog 21 #[.string s] w (U8 (Lz.aG s.data.toList) w):=(tP s hs w).mono fun _ _ ⟨v,e,hp,_,_,hb⟩=>⟨v,e,hp,hb⟩
end Go.Proofs.YtecoeebjaleeiaaGreatDoor
namespace Go.Proofs.YtecoeebjaleeiaaGreatDoor
open Go.ChangeShapes Go.WideShapes Go.ChangeAt Go.RowKit
theorem vG:laidOutB Tryz.prog=true:=by kernel_rfl
theorem Qp:Tryz.prog.cellsOf 5=1:=by kernel_rfl
theorem jD {H:Type} {enc:TypeId×Value->H} {W W':World} (hb:Below W.heap.size W W'):∀{ts:List TypeId} {vs:List Value} {ds:List (DataW H)} {ps:List MemPlace},
  (∀t∈ts,Tryz.prog.readableRec t=true/\t<Tryz.prog.types.size)->DataW.TrodAll enc Tryz.prog W 0 (fun _=>true) true ts vs ds ps->(∀x∈ps,x.block<W.heap.size)->
  DataW.TrodAll enc Tryz.prog W' 0 (fun b=>decide (b<W.heap.size)) true ts vs ds ps
 | [],[],[],_,_,h,_=>h
 | t::ts,v::vs,d::ds,ps,ht,⟨p,q,h1,h2,e⟩,aV=>
   ⟨p,q,Below.trod vG (ht t (by simp)).1 (ht t (by simp)).2 h1 hb (fun x hx=>aV x (by rw[e];exact List.mem_append_left _ hx)),
    jD hb (fun t' h'=>ht t' (by simp[h'])) h2 (fun x hx=>aV x (by rw[e];exact List.mem_append_right _ hx)),e⟩
 | [],_::_,_,_,_,h,_=>by simp[DataW.TrodAll]at h
 | [],[],_::_,_,_,h,_=>by simp[DataW.TrodAll]at h
 | _::_,[],_,_,_,h,_=>by simp[DataW.TrodAll]at h
 | _::_,_::_,[],_,_,h,_=>by simp[DataW.TrodAll]at h
theorem GI {n:Int} (h:(Lit.int .u8 n).wf=true):0<=n/\n<=255:=by
 simp only[Lit.wf,Bool.and_eq_true,decide_eq_true_eq]at h;have h0:IntKind.u8.min=0:=by decide
 have h1:IntKind.u8.max=255:=by decide
 rw[h0,h1]at h;exact h
theorem MQ {H:Type} {enc:TypeId×Value->H} {W:World} {base:Nat} {sp:Nat->Bool} {hd:Bool} {v:Value} {x:DataW H×List MemPlace} {fuel:Nat}
  (hf:DataW.trod enc Tryz.prog W base sp hd fuel 75 [v]=some x):∃l,SlB W v l:=by
 rcases open_ints Tryz.underlying75 Tryz.underlying5 Qp hf with⟨iZ,hx⟩|⟨a,len',VN,zs,iZ,_,hl,hm,hz,hx,bc,hwz⟩
 ·obtain rfl:=List.singleton_inj.1 iZ;exact⟨[],none,0,rfl,by simp,fun j b hj=>by simp at hj⟩
 ·obtain rfl:=List.singleton_inj.1 iZ;have hzl:len'<=zs.length:=by rw[hz];split<;>omega
  have hm':VN<=9223372036854775807:=hm;have ba:((zs.take len').map (fun z=>UInt8.ofNat z.toNat)).length=len':=by simp;omega
  refine⟨(zs.take len').map (fun z=>UInt8.ofNat z.toNat),some a,VN,by rw[ba],by rw[ba];omega,fun j b hj=>?_⟩
  have nP:j<len':=by
   have:=(List.getElem?_eq_some_iff.1 hj).1;rw[ba]at this;exact this
  obtain⟨B,off,rfl,hc⟩:=ints_at bc (by omega);have h1:=hc j (by omega);refine⟨B,off,rfl,World.block_lt_of_cell? _ _ h1,?_⟩;rw[h1]
  have hzj:zs[j]? =some (zs.getD j 0):=by
   rw[List.getD_eq_getElem?_getD,List.getElem?_eq_getElem (by omega)];rfl
  have hb:b=UInt8.ofNat (zs.getD j 0).toNat:=by
   rw[List.getElem?_map,List.getElem?_take,if_pos nP,hzj]at hj;exact(Option.some.inj hj).symm
  obtain⟨w0,w1⟩:=GI (hwz _ (List.mem_of_getElem? hzj));rw[hb,UInt8.toNat_ofNat'];congr 2;omega
theorem abh {H:Type} {enc:TypeId×Value->H} {W:World} {base:Nat} {sp:Nat->Bool} {hd:Bool} {v:Value} {d:DataW H} {ps:List MemPlace} {r:Reach} {b0:Nat}
  (hv:Value.okWide Tryz.prog W r b0 75 v) (h:DataW.Trod enc Tryz.prog W base sp hd 75 v d ps):∃l,SlB W v l:=by
 obtain⟨a0,len,cap,rfl⟩:=okWide_slice Tryz.underlying75 hv;obtain⟨fuel,hf⟩:=h;exact MQ hf
end Go.Proofs.YtecoeebjaleeiaaGreatDoor
namespace Lz
open Go
def My:Bs:=[104,116,116,112,115,58,47,47,97,46,98,47,120]
def Ta:Bs:=[100,101,102,97,117,108,116,45,115,114,99,32,39,110,111,110,101,39,59,32,98,97,115,101,45,117,114,105,32,39,78,111,110,101,39,59,32,102,111,114,109,45,97,99,116,105,111,110]
def NG:Bs:=[114,101,113,117,105,114,101,45,116,114,117,115,116,101,100,45,116,121,112,101,115,45,102,111,114,32,39,115,99,114,105,112,116,39]
def Jb:Bs:=[115,99,114,105,112,116,45,115,114,99,32,39,115,101,108,102,39,32,39,110,111,110,99,101,45,110,39]
def YE:Bs:=[105,109,103,45,115,114,99,32,39,110,111,110,101,39]
def G5:Bs:=[105,109,103,45,115,114,99]
def Nn:Bs:=[106,97,118,97,115,99,114,105,112,116,58,49]
def UQ:Bs:=[104,116,116,112,115,58,47,47,99,47]
def kB:Bs:=[39,110,111,110,99,101,45,110,39]
def rW:Bs:=39::(Dp++[39])
def rQ:List il:=[⟨kS,[uw]⟩,⟨NB,[[39,78,111,110,101,39]]⟩,⟨Mr,[]⟩]
def nz:List il:=[⟨jq,[ni]⟩]
def iM:List il:=[⟨dK,[rW,kB]⟩]
def xf:List il:=[⟨G5,[uw]⟩]
theorem M5:BM Ta=rQ:=by decide +kernel
theorem Kt:BM NG=nz:=by decide +kernel
theorem FN:BM Jb=iM:=by decide +kernel
theorem Rz:BM YE=xf:=by decide +kernel
theorem rx (sum:Int->Bs->Bs) (aR:Bs->List Bs) {vs:List Bs} (h:jf vs=true) (x:ji) (own:ag):fL sum aR vs x own=false:=by
 unfold fL;split
 ·unfold me;cases dg x.url none with
  | er k=>rfl
  | ok u=>
    dsimp only
    split
    ·unfold qv;rw[if_pos h]
    ·rw[h]
     simp[anyM,h]
 ·unfold gv;rw[if_pos (Or.inr (Or.inr h))]
theorem IT {p:Int->Prop} {k:Int} (h1:1<=k) (h2:k<=16) (h:∀j:Fin 16,p ((j.val:Int)+1)):p k:=by
 have:=h ⟨(k-1).toNat,by omega⟩;rw[show(((k-1).toNat:Nat):Int)+1=k by omega]at this;exact this
def Js:Option il->Bool
 | some d=>jf d.vals
 | none=>false
theorem Gx (sum:Int->Bs->Bs) (aR:Bs->List Bs) (x:ji) (own:ag) (h1:1<=x.kind) (h2:x.kind<=16):(dH sum aR rQ x own).isSome=true:=by
 have h:Js (fZ rQ x.kind)=true:=IT (p:=fun k=>Js (fZ rQ k)=true) h1 h2 (by decide +kernel);unfold dH;cases hd:fZ rQ x.kind with
 | none=>rw[hd]at h;cases h
 | some d=>
   rw[hd]at h
   dsimp only
   rw[rx sum aR h x own];rfl
theorem Dx (sum:Int->Bs->Bs) (aR:Bs->List Bs) (x:ji) (own:ag):dH sum aR [] x own=none:=by
 have h:fZ [] x.kind=none:=by
  unfold fZ;split
  ·have:∀l:List Bs,(l.find? fun n=>(iv [] n).isSome)=none:=fun l=>List.find?_eq_none.2 (fun n _=>by simp[iv]);rw[this];rfl
  ·rfl
 have hr:eC []=false:=rfl;unfold dH;rw[h,hr]
 simp
theorem D6 (sum:Int->Bs->Bs) (aR:Bs->List Bs) (x:ji) (own:ag) (h1:1<=x.kind) (h2:x.kind<=16):dH sum aR nz x own=if x.kind=4 then some jq else none:=by
 have h:fZ nz x.kind=none:=IT (p:=fun k=>fZ nz k=none) h1 h2 (by decide +kernel);have hr:eC nz=true:=by decide +kernel
 unfold dH;rw[h,hr];by_cases hk:x.kind=4<;>simp[hk]
def xU:List kW:=[⟨iM,false⟩,⟨xf,true⟩]
section
variable (sum:Int->Bs->Bs) (aR:Bs->List Bs) (own:ag)
theorem I5 (t:Bs):ud sum [rW,kB] t=false:=by
 unfold ud;rw[List.any_eq_false];intro x hx;have h5:∀x∈bF [rW,kB],(x.kind==5)=false:=by decide +kernel
 rw[h5 x hx];simp
theorem lO (x:ji) (h:fR x.kind≠0) (hf:fZ iM x.kind=some ⟨dK,[rW,kB]⟩) (b:Bool) (hb:gv sum (fR x.kind) [rW,kB] x.nonce x.text=b) (h4:x.kind≠4\/b=false):dH sum aR iM x own=if b then none else some dK:=by
 unfold dH;rw[hf]
 dsimp only
 unfold fL;rw[if_neg h,hb];cases b with
 | true=>
   rcases h4 with h4|h4
   ·simp[h4]
   ·cases h4
 | false=>rfl
theorem Bj (x:ji) (hf:fZ xf x.kind=none):dH sum aR xf x own=none:=by
 have hr:eC xf=false:=by decide +kernel
 unfold dH;rw[hf,hr]
 simp
theorem Ad (x:ji) (hf:fZ iM x.kind=none):dH sum aR iM x own=none:=by
 have hr:eC iM=false:=by decide +kernel
 unfold dH;rw[hf,hr]
 simp
def AR (x:ji):List uT:=bt (fun p=>dH sum aR p.list x own) 0 xU
theorem rf (x:ji) (a b:Option Bs) (ha:dH sum aR iM x own=a) (hb:dH sum aR xf x own=b):AR sum aR own x=(match a with|some d=>[⟨0,d,false⟩]|none=>[])++(match b with|some d=>[⟨1,d,true⟩]|none=>[]):=by
 unfold AR xU;simp only[bt,ha,hb];cases a<;>cases b<;>rfl
theorem Gb:gv sum 1 [rW,kB] [110] [121]=true:=by
 unfold gv;rw[if_neg (by decide +kernel),if_pos (by decide +kernel)]
theorem BV:gv sum 1 [rW,kB] [] [121]=false:=by
 unfold gv;rw[if_neg (by decide +kernel),if_neg (by decide +kernel),I5]
 simp
theorem EJ:gv sum 3 [rW,kB] [] Nn=false:=by
 unfold gv;rw[if_neg (by decide +kernel),if_neg (by decide +kernel),I5]
 simp
theorem Rx (x:ji) (h:x=⟨2,0,[],[],[121],[110],[]⟩):AR sum aR own x=[]:=by
 subst h;rw[rf sum aR own _ none none ((lO sum aR own ⟨2,0,[],[],[121],[110],[]⟩ (by decide) (by decide +kernel) true (Gb sum) (Or.inl (by decide))).trans rfl) (Bj sum aR own _ (by decide +kernel))];rfl
theorem RZ (x:ji) (h:x=⟨2,0,[],[],[121],[],[]⟩):AR sum aR own x=[⟨0,dK,false⟩]:=by
 subst h;rw[rf sum aR own _ (some dK) none ((lO sum aR own ⟨2,0,[],[],[121],[],[]⟩ (by decide) (by decide +kernel) false (BV sum) (Or.inl (by decide))).trans rfl) (Bj sum aR own _ (by decide +kernel))];rfl
theorem RL (x:ji) (h:x=⟨8,0,[],My,[],[],[]⟩):AR sum aR own x=[⟨1,G5,true⟩]:=by
 subst h
 have hf:dH sum aR xf ⟨8,0,[],My,[],[],[]⟩ own=some G5:=by
  unfold dH;rw[show fZ xf (8:Int)=some ⟨G5,[uw]⟩ by decide +kernel]
  dsimp only
  rw[rx sum aR (by decide +kernel)];rfl
 rw[rf sum aR own _ none (some G5) (Ad sum aR own _ (by decide +kernel)) hf];rfl
theorem Qv (x:ji) (h:x=⟨4,0,[],[],Nn,[],[]⟩):AR sum aR own x=[⟨0,dK,false⟩]:=by
 subst h;rw[rf sum aR own _ (some dK) none ((lO sum aR own ⟨4,0,[],[],Nn,[],[]⟩ (by decide) (by decide +kernel) false (EJ sum) (Or.inr rfl)).trans rfl) (Bj sum aR own _ (by decide +kernel))];rfl
theorem RD (x:ji) (h:x=⟨15,0,[],UQ,[],[],[]⟩):AR sum aR own x=[]:=by
 subst h;rw[rf sum aR own _ none none (Ad sum aR own _ (by decide +kernel)) (Bj sum aR own _ (by decide +kernel))];rfl
end
section
variable (F:kW->Option Bs)
theorem sO (l:List kW) (m:kW):bt F 0 (l++[m])=bt F 0 l++(match F m with|some d=>[⟨l.length,d,m.rep⟩]|none=>[]):=by
 rw[oG];simp only[bt,Nat.zero_add];cases F m<;>rfl
theorem JM (l:List kW) (m:kW):∃t,bt F 0 (l++[m])=bt F 0 l++t/\t.length<=1:=by
 refine⟨_,sO F l m,?_⟩;cases F m<;>simp
theorem Oi {s:Int×Bs} (h:s.1=2) (v:uT):Ey s v=s:=by
 unfold Ey;rw[if_neg (fun e=>e.2 h),if_neg (fun e=>by have:=e.2;omega)]
theorem FG (l:List kW) (m:kW) (h:(dj (bt F 0 l)).1=2):dj (bt F 0 (l++[m]))=dj (bt F 0 l):=by
 rw[sO];cases F m with
 | none=>rw[List.append_nil]
 | some d=>rw[mV,Oi h]
theorem K9 (l:List kW) (m:kW) (hm:m.rep=true) (h:(dj (bt F 0 l)).1≠2):(dj (bt F 0 (l++[m]))).1≠2:=by
 rw[sO];cases F m with
 | none=>rw[List.append_nil];exact h
 | some d=>
   dsimp only
   rw[mV,hm];unfold Ey;rw[if_neg (fun e=>by cases e.1)];split
   ·show(3:Int)≠2;decide
   ·exact h
end
end Lz
