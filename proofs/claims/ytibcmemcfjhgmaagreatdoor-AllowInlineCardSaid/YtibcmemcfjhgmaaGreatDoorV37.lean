/-
  slices.IndexFunc, ContainsFunc at sources, for any function that is asked.
-/
import Derived.Test.YtibcmemcfjhgmaaGreatDoorV25
import Derived.Test.YtibcmemcfjhgmaaGreatDoorV36
set_option maxHeartbeats 4000000
set_option maxRecDepth 100000
namespace Go.Proofs.YtibcmemcfjhgmaaGreatDoor
open Go.RowKit
attribute [local go_sem ↓] Go.wp_at_zero Go.wp_at_succ
theorem tB (x:ah):(ah.row x).length=8:=rfl
theorem SX:∀(ys:List ah) (j:Nat) (x:ah) (k:Nat),ys[j]? =some x->k<8->(ys.flatMap ah.row)[j*8+k]? =(ah.row x)[k]?
 | [],j,x,k,h,_=>by simp at h
 | y::r,0,x,k,h,hk=>by
   obtain rfl:y=x:=by simpa using h
   rw[List.flatMap_cons,List.getElem?_append_left (by rw[tB];omega),Nat.zero_mul,Nat.zero_add]
 | y::r,j+1,x,k,h,hk=>by
   have h':r[j]? =some x:=by simpa using h
   rw[List.flatMap_cons,List.getElem?_append_right (by rw[tB];omega),tB,show(j+1)*8+k-8=j*8+k by omega];exact SX r j x k h' hk
def jd (w:World) (v:Value) (ys:List ah):Prop:=
 ∃(a:Option Addr) (c:Nat),v=.slice a ys.length c/\∀(j:Nat) (x:ah),ys[j]? =some x->∃g,a=some ⟨g,0,none⟩/\g<w.heap.size/\∀(k:Nat) (u:Value),(ah.row x)[k]? =some u->w.cell? ⟨g,j*8+k,none⟩=some u
theorem jd.below {w w':World} {v:Value} {ys:List ah} (h:jd w v ys) (hb:Below w.heap.size w w'):jd w' v ys:=by
 obtain⟨a,c,h1,h2⟩:=h;refine⟨a,c,h1,fun j x hj=>?_⟩;obtain⟨g,e1,e2,e3⟩:=h2 j x hj;exact⟨g,e1,Nat.lt_of_lt_of_le e2 hb.size,fun k u hk=>by rw[hb.cell (p:=⟨g,j*8+k,none⟩) e2];exact e3 k u hk⟩
theorem bo.at {w:World} {B:Nat} {v:Value} {ys:List ah} (h:bo w B v ys):jd w v ys:=by
 obtain⟨h1,h2⟩:=h;rcases h2 with⟨rfl,hn⟩|⟨g,cap,dx,rfl,hg,hh,hc,_,iF,ht⟩
 ·have:ys=[]:=List.length_eq_zero_iff.1 hn;subst this;exact⟨none,0,rfl,fun j x hj=>by simp at hj⟩
 ·refine⟨some ⟨g,0,none⟩,cap,rfl,fun j x hj=>⟨g,rfl,aZ hh,fun k u hk=>?_⟩⟩;have Sq:k<8:=by rw[<-tB x];exact(List.getElem?_eq_some_iff.1 hk).1
  have mq:j<ys.length:=(List.getElem?_eq_some_iff.1 hj).1;have h3:=SX ys j x k hj Sq;rw[hk,<-ht,List.getElem?_take_of_lt (by omega)]at h3;exact rowAt hh (j*8+k) u (by rw[<-Array.getElem?_toList];exact h3)
attribute [local go_sem ↓] Go.wp_at_zero Go.wp_at_succ
theorem vw (v:Value) (ys:List ah) (f:Nat) (bs:Array Value) (p:ah->Bool) (w:World) (hf:∀(args:Array Value) (W:World),(callFunc f args).run Tryz.prog W=.ok (.enter f args) W) (h:jd w v ys) (hL:ys.length<=100000)
  (hp:∀(W:World) (x:ah),x∈ys->Below w.heap.size w W->Calls Tryz.prog f (#[x.val]++bs) W fun e w'=>e=.returned (.bool (p x))/\Below w.heap.size w w'):
  Calls Tryz.prog 62 #[v,.func (.func f) #[] bs] w fun e w'=>∃r:Int,e=.returned (.int .i64 r)/\Hid (decide (0<=r)=ys.any p)/\Below w.heap.size w w':=by
 obtain⟨a,c,rfl,hx⟩:=h;have Hx:=Ih hx;have Hp:=Ih hp;obtain⟨n,hn⟩:∃n,n=ys.length:=⟨_,rfl⟩;rw[<-hn];rw[<-hn]at hL;have HN:=Ih hn;clear hx hp hn;go_enter Tryz.func62,Tryz.ntmps62
 go_wp2_with fail
 go_loopw [8] (fun i wr=>∃j:Nat,j<=n/\i=.int .i64 j/\Hid ((ys.take j).any p=false)/\Below w.heap.size w wr) (fun i _=>n-(intOf i).toNat)
 case atStart=>exact⟨0,Nat.zero_le _,rfl,Ih (by simp),Below.refl _ _⟩
 case round=>
  obtain⟨j,hj,rfl,hT,aC⟩:=hrel;by_cases aL:j<n
  ·have aK:(j:Int)<(n:Int):=by omega
   have tI:(0:Int)<=(j:Int):=by omega
   obtain⟨x,hx⟩:∃x,ys[j]? =some x:=⟨_,List.getElem?_eq_getElem (by rw[<-HN.out];exact aL)⟩;obtain⟨g,rfl,hg,hc⟩:=Hx.out j x hx;have kO:∀(k:Nat) (u:Value),(ah.row x)[k]? =some u->wr.cell? ⟨g,j*8+k,none⟩=some u:=fun k u hk=>by rw[aC.cell (p:=⟨g,j*8+k,none⟩) hg];exact hc k u hk
   have cP:=Ih (Hp.out wr x (List.mem_of_getElem? hx) aC);have hst:(ys.take (j+1)).any p=p x:=by rw[List.take_add_one,hx,List.any_append,hT.out];simp
   have dY:p x=true->ys.any p=true:=fun h=>by rw[List.any_eq_true];exact⟨x,List.mem_of_getElem? hx,h⟩
   obtain⟨k,t,b,sc,ho,wd,po,pa⟩:=x;have c0:=kO 0 _ rfl;have c1:=kO 1 _ rfl;have c2:=kO 2 _ rfl;have c3:=kO 3 _ rfl;have c4:=kO 4 _ rfl;have c5:=kO 5 _ rfl;have c6:=kO 6 _ rfl;have c7:=kO 7 _ rfl;have iA:=Ih hst;have gi:=Ih dY;clear hx hc kO hst dY hT
   dsimp only at c0 c1 c2 c3 c4 c5 c6 c7
   rw[Nat.add_zero]at c0
   dsimp only[ah.val]at cP
   cases XT:p (ah.mk k t b sc ho wd po pa)with
   | true=>
     rw[XT]at cP;have HV:Hid (decide ((0:Int)<=(j:Int))=ys.any p):=by show _=_;rw[gi.out XT];exact decide_eq_true tI
     clear XT iA gi
     go_wp2_with fail
     refine cP.out.mono ?_;rintro e w5 ⟨rfl,bv⟩
     go_wp2_with fail
     go_ret;exact⟨_,rfl,HV,bv⟩
   | false=>
     rw[XT]at cP;have HS:Hid ((ys.take (j+1)).any p=false):=by show _=_;rw[iA.out,XT]
     clear XT iA gi
     go_wp2_with fail
     refine cP.out.mono ?_;rintro e w5 ⟨rfl,bv⟩
     go_wp2_with fail
     go_roundw
     case rel=>exact⟨j+1,by omega,by go_num,HS,bv⟩
     case measure=>simp[intOf];omega
  ·have aK:¬(j:Int)<(n:Int):=by omega
   have HV:Hid (decide ((0:Int)<= -1)=ys.any p):=by
    show _=_;rw[<-List.take_of_length_le (l:=ys) (i:=j) (by rw[<-HN.out];omega),hT.out];rfl
   clear hT
   go_wp2_with fail
   go_ret;exact⟨-1,rfl,HV,aC⟩
theorem fh (v:Value) (ys:List ah) (f:Nat) (bs:Array Value) (p:ah->Bool) (w:World) (hf:∀(args:Array Value) (W:World),(callFunc f args).run Tryz.prog W=.ok (.enter f args) W) (h:jd w v ys) (hL:ys.length<=100000)
  (hp:∀(W:World) (x:ah),x∈ys->Below w.heap.size w W->Calls Tryz.prog f (#[x.val]++bs) W fun e w'=>e=.returned (.bool (p x))/\Below w.heap.size w w'):
  Calls Tryz.prog 33 #[v,.func (.func f) #[] bs] w (a5 (ys.any p) w):=by
 have cI:=Ih (vw v ys f bs p w hf h hL hp);clear h hp hf;go_enter Tryz.func33,Tryz.ntmps33
 go_wp2_with fail
 refine cI.out.mono ?_;rintro e w5 ⟨r,rfl,hr,bv⟩
 go_wp2_with fail
 go_ret;exact⟨by rw[<-hr.out];rfl,bv⟩
end Go.Proofs.YtibcmemcfjhgmaaGreatDoor
