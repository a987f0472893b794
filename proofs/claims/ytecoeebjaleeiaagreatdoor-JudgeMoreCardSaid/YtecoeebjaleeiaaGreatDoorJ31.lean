/-
  sources.List.
-/
import Derived.Test.YtecoeebjaleeiaaGreatDoorJ16
import Derived.Test.YtecoeebjaleeiaaGreatDoorJ30
set_option maxHeartbeats 4000000
set_option maxRecDepth 100000
namespace Go.Proofs.YtecoeebjaleeiaaGreatDoor
open Go.RowKit
attribute [local go_sem ↓] Go.wp_at_zero Go.wp_at_succ
theorem I1:(Tryz.prog.info? 174).map (fun i=>(i.zero,i.size,i.bytes))=some (some (.agg #[.int .i64 0,.string ⟨#[]⟩,.int .i64 0,.string ⟨#[]⟩,.string ⟨#[]⟩,.bool false,.int .i64 0,.string ⟨#[]⟩]),8,96):=by kernel_rfl
def ak.row (x:ak):List Value:=[.int .i64 x.kind,.string x.text,.int .i64 x.bits,.string x.scheme,.string x.host,.bool x.wild,.int .i64 x.port,.string x.path]
def cn (w:World) (B:Nat) (v:Value) (ys:List ak):Prop:=w.ownsRow B 174 8 v ys.length (ys.flatMap ak.row)
theorem cn.below {w w':World} {B:Nat} {v:Value} {ys:List ak} (h:cn w B v ys) (hb:Below w.heap.size w w'):cn w' B v ys:=bH h hb
def Du (l:List (List UInt8)) (w:World) (e:Ending) (w':World):Prop:=∃(v:Value) (ys:List ak),e=.returned v/\Hid (ys.map ak.src=Lz.bF l)/\cn w' w.heap.size v ys/\Below w.heap.size w w'
theorem lG {l:List UInt8} {y:Lz.Src} (h:Lz.ez l=some y):ic l=0/\lP l=y:=by constructor<;>simp[ic,lP,h]
theorem uC {l:List UInt8} (h:Lz.ez l=none):ic l=250:=by simp[ic,h]
theorem DL (v:Value) (l:List (List UInt8)) (w:World) (hE:Env w) (h:bd w v l) (hL:l.length<=10000) (hZ:∀x,x∈l->x.length<=1000000):Calls Tryz.prog 75 #[v] w (Du l w):=by
 obtain⟨i0,hi,fI,ei,eM⟩:=info_parts I1;obtain⟨a,c,xs,rfl,hl,hx⟩:=h;have mS:l.length=xs.length:=by rw[<-hl,List.length_map]
 obtain⟨n,hn⟩:∃n,n=xs.length:=⟨_,rfl⟩;rw[<-hn];rw[mS,<-hn]at hL;have Hx:=Ih hx;have HZ:Hid (∀x,x∈xs->x.size<=1000000):=Ih (fun x hx=>by rw[<-aa];exact hZ _ (by rw[<-hl];exact List.mem_map.2 ⟨x,hx,rfl⟩));have HL:=Ih hl;have HN:=Ih hn;have h0:cn w w.heap.size (.slice none 0 0) []:=World.ownsRow_nil w _ _ _;clear hx hl hn hZ mS;go_enter Tryz.func75,Tryz.ntmps75
 go_wp2_with fail
 go_loopw [3,10] (fun o i wr=>∃(j:Nat) (ys:List ak),j<=n/\i=.int .i64 j/\ys.length<=j/\Hid (ys.map ak.src=Lz.bF (l.take j))/\cn wr w.heap.size o ys/\Below w.heap.size w wr) (fun _ i _=>n-(intOf i).toNat)
 case atStart=>exact⟨0,[],Nat.zero_le _,rfl,Nat.le_refl _,Ih (by simp[Lz.bF]),h0,Below.refl _ _⟩
 case round=>
  clear h0;obtain⟨j,ys,hj,rfl,Yq,jV,au,aK⟩:=hrel;by_cases aV:j<n
  ·have bW:(j:Int)<(n:Int):=by omega
   have tM:(0:Int)<=(j:Int):=by omega
   obtain⟨s,hs⟩:∃s,xs[j]? =some s:=⟨_,List.getElem?_eq_getElem (by rw[<-HN.out];exact aV)⟩;obtain⟨B,off,rfl,hB,hc⟩:=Hx.out j s hs;have iD:wr.cell? ⟨B,off+j,none⟩=some (.string s):=by rw[aK.cell (p:=⟨B,off+j,none⟩) hB];exact hc
   have ju:s.size<=1000000:=HZ.out s (List.mem_of_getElem? hs)
   have gH:l.take (j+1)=l.take j++[s.data.toList]:=by
    rw[List.take_add_one,<-HL.out,List.getElem?_map,hs];rfl
   have hst:Lz.bF (l.take (j+1))=Lz.bF (l.take j)++(match Lz.ez s.data.toList with|some y=>[y]|none=>[]):=by
    rw[gH];unfold Lz.bF;rw[List.filterMap_append];cases h:Lz.ez s.data.toList<;>simp[h]
   have cP:=Ih (zR s (by omega) wr (hE.below aK));have ew:=Ih au;have gM:=Ih hst;clear hs hc gH hst au
   go_upto_region 6 with(first |(refine cP.out.mono ?_;rintro e w1 ⟨x,rfl,gW,ar⟩;obtain⟨k,t,b,sc,ho,wd,po,pa⟩:=x;dsimp only[ak.val])|(refine eh rfl _ _ rfl w1.heap.size rfl rfl _ (ah _ _) rfl ?_))
   obtain⟨W2,pH⟩:∃W2,W2=(w1.alloc (.cells #[.int .i64 0,.string ⟨#[]⟩,.int .i64 0,.string ⟨#[]⟩,.string ⟨#[]⟩,.bool false,.int .i64 0,.string ⟨#[]⟩] 174)).setRow w1.heap.size #[.int .i64 k,.string t,.int .i64 b,.string sc,.string ho,.bool wd,.int .i64 po,.string pa]:=⟨_,rfl⟩;rw[<-pH];have az:Below w1.heap.size w1 W2:=by rw[pH];exact aH ((Below.refl _ w1).alloc (Nat.le_refl _) _) (Nat.le_refl _)
   have nO:W2.heap[w1.heap.size]? =some (.cells #[.int .i64 k,.string t,.int .i64 b,.string sc,.string ho,.bool wd,.int .i64 po,.string pa] 174 (0,0)):=by rw[pH];exact setRow_heap _ _ _ _ _ _ (ah _ _)
   have fM:=Ih ((cn.below ew.out ar).below az);have ft:Below w.heap.size w W2:=ac (ac aK ar) az;have ye:=ft.size;clear pH az cP aK ar;cases hp:Lz.ez s.data.toList with
   | none=>
     have To:(ic s.data.toList==0)=false:=by rw[uC hp];rfl
     have HS:Hid (ys.map ak.src=Lz.bF (l.take (j+1))):=by show _=_;rw[gM.out,hp,jV.out];simp
     clear hp gM jV
     go_wp2_with fail
     go_roundw
     case rel=>exact⟨j+1,ys,by omega,by go_num,by omega,HS,fM.out,ft⟩
     case measure=>simp[intOf];omega
   | some y=>
     have To:(ic s.data.toList==0)=true:=by rw[(lG hp).1];rfl
     have HS:Hid ((ys++[(ak.mk k t b sc ho wd po pa)]).map ak.src=Lz.bF (l.take (j+1))):=by
      show _=_;rw[gM.out,hp,List.map_append,jV.out];show _++[ak.src (ak.mk k t b sc ho wd po pa)]=_++[y];rw[gW.out,(lG hp).2]
     have aZ:ys.flatMap ak.row++ak.row (ak.mk k t b sc ho wd po pa)=(ys++[(ak.mk k t b sc ho wd po pa)]).flatMap ak.row:=by rw[List.flatMap_append];simp
     have dV:=Ih aZ;obtain⟨c0,c1,c2,c3,c4,c5,c6,c7⟩:=tW nO;clear hp gM jV aZ nO
     go_wp2_with (at_builtin;refine wpList_append_own _ rfl (.tmp 21) (.tmp 23) 126 rfl w.heap.size 174 i0 (.agg #[.int .i64 0,.string ⟨#[]⟩,.int .i64 0,.string ⟨#[]⟩,.string ⟨#[]⟩,.bool false,.int .i64 0,.string ⟨#[]⟩]) 8 96 Tryz.underlying126 hi fI ei eM rfl (by decide) _ _ _ rfl (World.ownsRow.alloc fM.out _) ⟨W2.heap.size,0,none⟩ 1 1 (ak.row (ak.mk k t b sc ho wd po pa)) rfl rfl (mC W2 (ak.row (ak.mk k t b sc ho wd po pa)) _) (by simp[ak.row,Value.oneCell']) (by unfold maxLen;omega) (by omega) (by simp;omega) ?_)
     intro v' w3 bf cp _;have aO:=Below.grown1 ft fM.out cp ye (Nat.le_refl _);rw[dV.out]at bf
     have eK:cn w3 w.heap.size v' (ys++[(ak.mk k t b sc ho wd po pa)]):=by
      unfold cn;rw[List.length_append];exact bf
     have fi:=Ih eK;clear bf cp eK c0 c1 c2 c3 c4 c5 c6 c7
     go_wp2
     go_roundw
     case rel=>exact⟨j+1,_,by omega,by go_num,by rw[List.length_append];simp;omega,HS,fi.out,aO⟩
     case measure=>simp[intOf];omega
  ·have bW:¬(j:Int)<(n:Int):=by omega
   have HV:Hid (ys.map ak.src=Lz.bF l):=by
    show _=_;rw[jV.out,List.take_of_length_le (by rw[<-HL.out,List.length_map,<-HN.out];omega)]
   clear jV
   go_wp2_with fail
   go_ret;exact⟨_,ys,rfl,HV,au,aK⟩
end Go.Proofs.YtecoeebjaleeiaaGreatDoor
