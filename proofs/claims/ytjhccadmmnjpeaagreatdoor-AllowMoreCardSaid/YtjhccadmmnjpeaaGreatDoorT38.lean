/-
  sources.List.
-/
import Derived.Test.YtjhccadmmnjpeaaGreatDoorT15
import Derived.Test.YtjhccadmmnjpeaaGreatDoorT37
set_option maxHeartbeats 4000000
set_option maxRecDepth 100000
namespace Go.Proofs.YtjhccadmmnjpeaaGreatDoor
open Go.RowKit
attribute [local go_sem ↓] Go.wp_at_zero Go.wp_at_succ
theorem infoSrc:(Tryz.prog.info? 47).map (fun i=>(i.zero,i.size,i.bytes))=some (some (.agg #[.int .i64 0,.string ⟨#[]⟩,.int .i64 0,.string ⟨#[]⟩,.string ⟨#[]⟩,.bool false,.int .i64 0,.string ⟨#[]⟩]),8,96):=by kernel_rfl
def SrcB.row (x:SrcB):List Value:=[.int .i64 x.kind,.string x.text,.int .i64 x.bits,.string x.scheme,.string x.host,.bool x.wild,.int .i64 x.port,.string x.path]
def SrcsOwn (w:World) (B:Nat) (v:Value) (ys:List SrcB):Prop:=w.ownsRow B 47 8 v ys.length (ys.flatMap SrcB.row)
theorem SrcsOwn.below {w w':World} {B:Nat} {v:Value} {ys:List SrcB} (h:SrcsOwn w B v ys) (hb:Below w.heap.size w w'):SrcsOwn w' B v ys:=own_below h hb
def RList (l:List (List UInt8)) (w:World) (e:Ending) (w':World):Prop:=∃(v:Value) (ys:List SrcB),e=.returned v/\Hid (ys.map SrcB.src=Lz.listS l)/\SrcsOwn w' w.heap.size v ys/\Below w.heap.size w w'
theorem parseE_some {l:List UInt8} {y:Lz.Src} (h:Lz.parseS l=some y):parseE l=0/\parseR l=y:=by constructor<;>simp[parseE,parseR,h]
theorem parseE_none {l:List UInt8} (h:Lz.parseS l=none):parseE l=250:=by simp[parseE,h]
theorem List_any (v:Value) (l:List (List UInt8)) (w:World) (hE:Env w) (h:PathAt w v l) (hL:l.length<=10000) (hZ:∀x,x∈l->x.length<=1000000):Calls Tryz.prog 24 #[v] w (RList l w):=by
 obtain⟨i0,hi,hz0,hz1,hz2⟩:=info_parts infoSrc;obtain⟨a,c,xs,rfl,hl,hx⟩:=h;have hll:l.length=xs.length:=by rw[<-hl,List.length_map]
 obtain⟨n,hn⟩:∃n,n=xs.length:=⟨_,rfl⟩;rw[<-hn];rw[hll,<-hn]at hL;have Hx:=Ih hx;have HZ:Hid (∀x,x∈xs->x.size<=1000000):=Ih (fun x hx=>by rw[<-len_of_size];exact hZ _ (by rw[<-hl];exact List.mem_map.2 ⟨x,hx,rfl⟩));have HL:=Ih hl;have HN:=Ih hn;have h0:SrcsOwn w w.heap.size (.slice none 0 0) []:=World.ownsRow_nil w _ _ _;clear hx hl hn hZ hll;go_enter Tryz.func24,Tryz.ntmps24
 go_wp2_with fail
 go_loopw [3,10] (fun o i wr=>∃(j:Nat) (ys:List SrcB),j<=n/\i=.int .i64 j/\ys.length<=j/\Hid (ys.map SrcB.src=Lz.listS (l.take j))/\SrcsOwn wr w.heap.size o ys/\Below w.heap.size w wr) (fun _ i _=>n-(intOf i).toNat)
 case atStart=>exact⟨0,[],Nat.zero_le _,rfl,Nat.le_refl _,Ih (by simp[Lz.listS]),h0,Below.refl _ _⟩
 case round=>
  clear h0;obtain⟨j,ys,hj,rfl,hyj,hys,hown,hbw⟩:=hrel;by_cases hlt:j<n
  ·have hltI:(j:Int)<(n:Int):=by omega
   have hj0:(0:Int)<=(j:Int):=by omega
   obtain⟨s,hs⟩:∃s,xs[j]? =some s:=⟨_,List.getElem?_eq_getElem (by rw[<-HN.out];exact hlt)⟩;obtain⟨B,off,rfl,hB,hc⟩:=Hx.out j s hs;have hc1:wr.cell? ⟨B,off+j,none⟩=some (.string s):=by rw[hbw.cell (p:=⟨B,off+j,none⟩) hB];exact hc
   have hsz:s.size<=1000000:=HZ.out s (List.mem_of_getElem? hs)
   have htk:l.take (j+1)=l.take j++[s.data.toList]:=by
    rw[List.take_add_one,<-HL.out,List.getElem?_map,hs];rfl
   have hst:Lz.listS (l.take (j+1))=Lz.listS (l.take j)++(match Lz.parseS s.data.toList with|some y=>[y]|none=>[]):=by
    rw[htk];unfold Lz.listS;rw[List.filterMap_append];cases h:Lz.parseS s.data.toList<;>simp[h]
   have cP:=Ih (Parse_any s (by omega) wr (hE.below hbw));have Hown:=Ih hown;have Hst:=Ih hst;clear hs hc htk hst hown
   go_upto_region 6 with(first |(refine cP.out.mono ?_;rintro e w1 ⟨x,rfl,hxs,hb1⟩;obtain⟨k,t,b,sc,ho,wd,po,pa⟩:=x;dsimp only[SrcB.val])|(refine store_src rfl _ _ rfl w1.heap.size rfl rfl _ (heap_new _ _) rfl ?_))
   obtain⟨W2,hW2⟩:∃W2,W2=(w1.alloc (.cells #[.int .i64 0,.string ⟨#[]⟩,.int .i64 0,.string ⟨#[]⟩,.string ⟨#[]⟩,.bool false,.int .i64 0,.string ⟨#[]⟩] 47)).setRow w1.heap.size #[.int .i64 k,.string t,.int .i64 b,.string sc,.string ho,.bool wd,.int .i64 po,.string pa]:=⟨_,rfl⟩;rw[<-hW2];have hb2:Below w1.heap.size w1 W2:=by rw[hW2];exact below_setRowT ((Below.refl _ w1).alloc (Nat.le_refl _) _) (Nat.le_refl _)
   have hR2:W2.heap[w1.heap.size]? =some (.cells #[.int .i64 k,.string t,.int .i64 b,.string sc,.string ho,.bool wd,.int .i64 po,.string pa] 47 (0,0)):=by rw[hW2];exact setRow_heap _ _ _ _ _ _ (heap_new _ _)
   have Hown2:=Ih ((SrcsOwn.below Hown.out hb1).below hb2);have hbw2:Below w.heap.size w W2:=below_call (below_call hbw hb1) hb2;have hsz2:=hbw2.size;clear hW2 hb2 cP hbw hb1;cases hp:Lz.parseS s.data.toList with
   | none=>
     have hE0:(parseE s.data.toList==0)=false:=by rw[parseE_none hp];rfl
     have HS:Hid (ys.map SrcB.src=Lz.listS (l.take (j+1))):=by show _=_;rw[Hst.out,hp,hys.out];simp
     clear hp Hst hys
     go_wp2_with fail
     go_roundw
     case rel=>exact⟨j+1,ys,by omega,by go_num,by omega,HS,Hown2.out,hbw2⟩
     case measure=>simp[intOf];omega
   | some y=>
     have hE0:(parseE s.data.toList==0)=true:=by rw[(parseE_some hp).1];rfl
     have HS:Hid ((ys++[(SrcB.mk k t b sc ho wd po pa)]).map SrcB.src=Lz.listS (l.take (j+1))):=by
      show _=_;rw[Hst.out,hp,List.map_append,hys.out];show _++[SrcB.src (SrcB.mk k t b sc ho wd po pa)]=_++[y];rw[hxs.out,(parseE_some hp).2]
     have hrow:ys.flatMap SrcB.row++SrcB.row (SrcB.mk k t b sc ho wd po pa)=(ys++[(SrcB.mk k t b sc ho wd po pa)]).flatMap SrcB.row:=by rw[List.flatMap_append];simp
     have Hrow:=Ih hrow;obtain⟨c0,c1,c2,c3,c4,c5,c6,c7⟩:=row8c hR2;clear hp Hst hys hrow hR2
     go_wp2_with (at_builtin;refine wpList_append_own _ rfl (.tmp 21) (.tmp 23) 43 rfl w.heap.size 47 i0 (.agg #[.int .i64 0,.string ⟨#[]⟩,.int .i64 0,.string ⟨#[]⟩,.string ⟨#[]⟩,.bool false,.int .i64 0,.string ⟨#[]⟩]) 8 96 Tryz.underlying43 hi hz0 hz1 hz2 rfl (by decide) _ _ _ rfl (World.ownsRow.alloc Hown2.out _) ⟨W2.heap.size,0,none⟩ 1 1 (SrcB.row (SrcB.mk k t b sc ho wd po pa)) rfl rfl (cell_row W2 (SrcB.row (SrcB.mk k t b sc ho wd po pa)) _) (by simp[SrcB.row,Value.oneCell']) (by unfold maxLen;omega) (by omega) (by simp;omega) ?_)
     intro v' w3 hown' hgrow _;have hb3:=Below.grown1 hbw2 Hown2.out hgrow hsz2 (Nat.le_refl _);rw[Hrow.out]at hown'
     have hown3:SrcsOwn w3 w.heap.size v' (ys++[(SrcB.mk k t b sc ho wd po pa)]):=by
      unfold SrcsOwn;rw[List.length_append];exact hown'
     have Hown3:=Ih hown3;clear hown' hgrow hown3 c0 c1 c2 c3 c4 c5 c6 c7
     go_wp2
     go_roundw
     case rel=>exact⟨j+1,_,by omega,by go_num,by rw[List.length_append];simp;omega,HS,Hown3.out,hb3⟩
     case measure=>simp[intOf];omega
  ·have hltI:¬(j:Int)<(n:Int):=by omega
   have HV:Hid (ys.map SrcB.src=Lz.listS l):=by
    show _=_;rw[hys.out,List.take_of_length_le (by rw[<-HL.out,List.length_map,<-HN.out];omega)]
   clear hys
   go_wp2_with fail
   go_ret;exact⟨_,ys,rfl,HV,hown,hbw⟩
end Go.Proofs.YtjhccadmmnjpeaaGreatDoor
