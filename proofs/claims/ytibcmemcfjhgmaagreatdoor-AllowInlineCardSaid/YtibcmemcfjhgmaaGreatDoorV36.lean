/-
  sources.List.
-/
import Derived.Test.YtibcmemcfjhgmaaGreatDoorV15
import Derived.Test.YtibcmemcfjhgmaaGreatDoorV33
set_option maxHeartbeats 4000000
set_option maxRecDepth 100000
namespace Go.Proofs.YtibcmemcfjhgmaaGreatDoor
open Go.RowKit
attribute [local go_sem ↓] Go.wp_at_zero Go.wp_at_succ
theorem Ag:(Tryz.prog.info? 63).map (fun i=>(i.zero,i.size,i.bytes))=some (some (.agg #[.int .i64 0,.string ⟨#[]⟩,.int .i64 0,.string ⟨#[]⟩,.string ⟨#[]⟩,.bool false,.int .i64 0,.string ⟨#[]⟩]),8,96):=by kernel_rfl
def ah.row (x:ah):List Value:=[.int .i64 x.kind,.string x.text,.int .i64 x.bits,.string x.scheme,.string x.host,.bool x.wild,.int .i64 x.port,.string x.path]
def bo (w:World) (B:Nat) (v:Value) (ys:List ah):Prop:=w.ownsRow B 63 8 v ys.length (ys.flatMap ah.row)
theorem bo.below {w w':World} {B:Nat} {v:Value} {ys:List ah} (h:bo w B v ys) (hb:Below w.heap.size w w'):bo w' B v ys:=dh h hb
def BJ (l:List (List UInt8)) (w:World) (e:Ending) (w':World):Prop:=∃(v:Value) (ys:List ah),e=.returned v/\Hid (ys.map ah.src=Lz.aM l)/\bo w' w.heap.size v ys/\Below w.heap.size w w'
theorem gP {l:List UInt8} {y:Lz.Src} (h:Lz.a8 l=some y):em l=0/\ie l=y:=by constructor<;>simp[em,ie,h]
theorem mT {l:List UInt8} (h:Lz.a8 l=none):em l=250:=by simp[em,h]
theorem NW (v:Value) (l:List (List UInt8)) (w:World) (hE:Env w) (h:eY w v l) (hL:l.length<=10000) (hZ:∀x,x∈l->x.length<=1000000):Calls Tryz.prog 28 #[v] w (BJ l w):=by
 obtain⟨i0,hi,eZ,d9,eo⟩:=info_parts Ag;obtain⟨a,c,xs,rfl,hl,hx⟩:=h;have jf:l.length=xs.length:=by rw[<-hl,List.length_map]
 obtain⟨n,hn⟩:∃n,n=xs.length:=⟨_,rfl⟩;rw[<-hn];rw[jf,<-hn]at hL;have Hx:=Ih hx;have HZ:Hid (∀x,x∈xs->x.size<=1000000):=Ih (fun x hx=>by rw[<-ac];exact hZ _ (by rw[<-hl];exact List.mem_map.2 ⟨x,hx,rfl⟩));have HL:=Ih hl;have HN:=Ih hn;have h0:bo w w.heap.size (.slice none 0 0) []:=World.ownsRow_nil w _ _ _;clear hx hl hn hZ jf;go_enter Tryz.func28,Tryz.ntmps28
 go_wp2_with fail
 go_loopw [3,10] (fun o i wr=>∃(j:Nat) (ys:List ah),j<=n/\i=.int .i64 j/\ys.length<=j/\Hid (ys.map ah.src=Lz.aM (l.take j))/\bo wr w.heap.size o ys/\Below w.heap.size w wr) (fun _ i _=>n-(intOf i).toNat)
 case atStart=>exact⟨0,[],Nat.zero_le _,rfl,Nat.le_refl _,Ih (by simp[Lz.aM]),h0,Below.refl _ _⟩
 case round=>
  clear h0;obtain⟨j,ys,hj,rfl,hyj,gY,ai,aC⟩:=hrel;by_cases aL:j<n
  ·have aK:(j:Int)<(n:Int):=by omega
   have tI:(0:Int)<=(j:Int):=by omega
   obtain⟨s,hs⟩:∃s,xs[j]? =some s:=⟨_,List.getElem?_eq_getElem (by rw[<-HN.out];exact aL)⟩;obtain⟨B,off,rfl,hB,hc⟩:=Hx.out j s hs;have iE:wr.cell? ⟨B,off+j,none⟩=some (.string s):=by rw[aC.cell (p:=⟨B,off+j,none⟩) hB];exact hc
   have fu:s.size<=1000000:=HZ.out s (List.mem_of_getElem? hs)
   have gu:l.take (j+1)=l.take j++[s.data.toList]:=by
    rw[List.take_add_one,<-HL.out,List.getElem?_map,hs];rfl
   have hst:Lz.aM (l.take (j+1))=Lz.aM (l.take j)++(match Lz.a8 s.data.toList with|some y=>[y]|none=>[]):=by
    rw[gu];unfold Lz.aM;rw[List.filterMap_append];cases h:Lz.a8 s.data.toList<;>simp[h]
   have cP:=Ih (xY s (by omega) wr (hE.below aC));have bi:=Ih ai;have iA:=Ih hst;clear hs hc gu hst ai
   go_upto_region 6 with(first |(refine cP.out.mono ?_;rintro e w1 ⟨x,rfl,mc,av⟩;obtain⟨k,t,b,sc,ho,wd,po,pa⟩:=x;dsimp only[ah.val])|(refine a9 rfl _ _ rfl w1.heap.size rfl rfl _ (an _ _) rfl ?_))
   obtain⟨W2,lp⟩:∃W2,W2=(w1.alloc (.cells #[.int .i64 0,.string ⟨#[]⟩,.int .i64 0,.string ⟨#[]⟩,.string ⟨#[]⟩,.bool false,.int .i64 0,.string ⟨#[]⟩] 63)).setRow w1.heap.size #[.int .i64 k,.string t,.int .i64 b,.string sc,.string ho,.bool wd,.int .i64 po,.string pa]:=⟨_,rfl⟩;rw[<-lp];have aE:Below w1.heap.size w1 W2:=by rw[lp];exact aR ((Below.refl _ w1).alloc (Nat.le_refl _) _) (Nat.le_refl _)
   have nW:W2.heap[w1.heap.size]? =some (.cells #[.int .i64 k,.string t,.int .i64 b,.string sc,.string ho,.bool wd,.int .i64 po,.string pa] 63 (0,0)):=by rw[lp];exact setRow_heap _ _ _ _ _ _ (an _ _)
   have bF:=Ih ((bo.below bi.out av).below aE);have eC:Below w.heap.size w W2:=ae (ae aC av) aE;have ns:=eC.size;clear lp aE cP aC av;cases hp:Lz.a8 s.data.toList with
   | none=>
     have Pt:(em s.data.toList==0)=false:=by rw[mT hp];rfl
     have HS:Hid (ys.map ah.src=Lz.aM (l.take (j+1))):=by show _=_;rw[iA.out,hp,gY.out];simp
     clear hp iA gY
     go_wp2_with fail
     go_roundw
     case rel=>exact⟨j+1,ys,by omega,by go_num,by omega,HS,bF.out,eC⟩
     case measure=>simp[intOf];omega
   | some y=>
     have Pt:(em s.data.toList==0)=true:=by rw[(gP hp).1];rfl
     have HS:Hid ((ys++[(ah.mk k t b sc ho wd po pa)]).map ah.src=Lz.aM (l.take (j+1))):=by
      show _=_;rw[iA.out,hp,List.map_append,gY.out];show _++[ah.src (ah.mk k t b sc ho wd po pa)]=_++[y];rw[mc.out,(gP hp).2]
     have bz:ys.flatMap ah.row++ah.row (ah.mk k t b sc ho wd po pa)=(ys++[(ah.mk k t b sc ho wd po pa)]).flatMap ah.row:=by rw[List.flatMap_append];simp
     have Dz:=Ih bz;obtain⟨c0,c1,c2,c3,c4,c5,c6,c7⟩:=xU nW;clear hp iA gY bz nW
     go_wp2_with (at_builtin;refine wpList_append_own _ rfl (.tmp 21) (.tmp 23) 59 rfl w.heap.size 63 i0 (.agg #[.int .i64 0,.string ⟨#[]⟩,.int .i64 0,.string ⟨#[]⟩,.string ⟨#[]⟩,.bool false,.int .i64 0,.string ⟨#[]⟩]) 8 96 Tryz.underlying59 hi eZ d9 eo rfl (by decide) _ _ _ rfl (World.ownsRow.alloc bF.out _) ⟨W2.heap.size,0,none⟩ 1 1 (ah.row (ah.mk k t b sc ho wd po pa)) rfl rfl (p9 W2 (ah.row (ah.mk k t b sc ho wd po pa)) _) (by simp[ah.row,Value.oneCell']) (by unfold maxLen;omega) (by omega) (by simp;omega) ?_)
     intro v' w3 aS bp _;have bj:=Below.grown1 eC bF.out bp ns (Nat.le_refl _);rw[Dz.out]at aS
     have ba:bo w3 w.heap.size v' (ys++[(ah.mk k t b sc ho wd po pa)]):=by
      unfold bo;rw[List.length_append];exact aS
     have dZ:=Ih ba;clear aS bp ba c0 c1 c2 c3 c4 c5 c6 c7
     go_wp2
     go_roundw
     case rel=>exact⟨j+1,_,by omega,by go_num,by rw[List.length_append];simp;omega,HS,dZ.out,bj⟩
     case measure=>simp[intOf];omega
  ·have aK:¬(j:Int)<(n:Int):=by omega
   have HV:Hid (ys.map ah.src=Lz.aM l):=by
    show _=_;rw[gY.out,List.take_of_length_le (by rw[<-HL.out,List.length_map,<-HN.out];omega)]
   clear gY
   go_wp2_with fail
   go_ret;exact⟨_,ys,rfl,HV,ai,aC⟩
end Go.Proofs.YtibcmemcfjhgmaaGreatDoor
