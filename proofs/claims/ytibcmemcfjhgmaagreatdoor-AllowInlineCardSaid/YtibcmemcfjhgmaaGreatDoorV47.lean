/-
  lazaretref27: has, kinds, All, Nonce.
-/
import Derived.Test.YtibcmemcfjhgmaaGreatDoorV38
import Derived.Test.YtibcmemcfjhgmaaGreatDoorV42
set_option maxHeartbeats 4000000
set_option maxRecDepth 100000
namespace Go.Proofs.YtibcmemcfjhgmaaGreatDoor
open Go.RowKit
attribute [local go_sem ↓] Go.wp_at_zero Go.wp_at_succ
theorem qr {α:Type} {ys:List α} {p:α->Bool} {j:Nat} {x:α} (h:(ys.take j).any p=false) (hx:ys[j]? =some x):(ys.take (j+1)).any p=p x:=by
 rw[List.take_add_one,hx,List.any_append,h];simp
theorem qt {α:Type} {ys:List α} {p:α->Bool} {j:Nat} {x:α} (hx:ys[j]? =some x) (h:p x=true):ys.any p=true:=List.any_eq_true.2 ⟨x,List.mem_of_getElem? hx,h⟩
theorem nR (v:Value) (l:List (List UInt8)) (k:Int) (n:ByteArray) (w:World) (hE:Env w) (h:bQ w v l):Calls Tryz.prog 30 #[v,.int .i64 k,.string n] w (a5 (Lz.kY l k n.data.toList) w):=by
 have cL:=Ih (oP v l w hE h.at' h.len (fun x hx=>by have:=h.size x hx;omega));have eu:Hid (∀ys:List ah,ys.map ah.src=Lz.aM l->ys.length<=100000):=Ih (fun ys hy=>h.ylen hy);obtain⟨R,hR⟩:∃R,R=Lz.kY l k n.data.toList:=⟨_,rfl⟩;rw[<-hR]
 have HR:Hid (∀ys:List ah,ys.map ah.src=Lz.aM l->R=ys.any fun x=>x.src.kind==k&&x.src.text==n.data.toList):=by
  show ∀ys,_;intro ys hy;rw[hR];unfold Lz.kY;rw[<-hy,List.any_map];rfl
 clear hR hE h;go_enter Tryz.func30,Tryz.ntmps30
 go_wp2_with fail
 refine cL.out.mono ?_;rintro e w1 ⟨sv,ys,rfl,gY,wK,av⟩;have nW:=HR.out ys gY.out;have aO:=eu.out ys gY.out;obtain⟨a,c,rfl,hx⟩:=bo.at wK;have Hx:=Ih hx;obtain⟨m,hm⟩:∃m,m=ys.length:=⟨_,rfl⟩;rw[<-hm]at aO⊢;have HM:=Ih hm;have wM:=Ih nW;clear hx hm wK nW HR eu cL
 go_wp2_with fail
 go_loopw [8] (fun i wr=>∃j:Nat,j<=m/\i=.int .i64 (j:Int)/\Hid ((ys.take j).any (fun x=>x.src.kind==k&&x.src.text==n.data.toList)=false)/\w1=wr) (fun i _=>m-(intOf i).toNat)
 case atStart=>exact⟨0,Nat.zero_le _,rfl,Ih (by simp),rfl⟩
 case round=>
  obtain⟨j,hj,rfl,hT,rfl⟩:=hrel;by_cases aL:j<m
  ·have aK:(j:Int)<(m:Int):=by omega
   have tI:(0:Int)<=(j:Int):=by omega
   obtain⟨x,hx⟩:∃x,ys[j]? =some x:=⟨_,List.getElem?_eq_getElem (by rw[<-HM.out];exact aL)⟩;obtain⟨g,rfl,hg,hc⟩:=Hx.out j x hx;have hN:=Ih (qr hT.out hx);have hA:=Ih (qt (p:=fun x=>x.src.kind==k&&x.src.text==n.data.toList) hx);obtain⟨kk,t,b,sc,ho,wd,po,pa⟩:=x;have c0:=hc 0 _ rfl;have c1:=hc 1 _ rfl
   dsimp only at c0 c1
   rw[Nat.add_zero]at c0;clear hx hc hT;have e1:(t.toList==n.toList)=(t.data.toList==n.data.toList):=qX t n;obtain⟨q1,gF⟩:∃q,q=(kk==k):=⟨_,rfl⟩;obtain⟨q2,jr⟩:∃q,q=(t.data.toList==n.data.toList):=⟨_,rfl⟩;rw[<-jr]at e1;have f1:((kk:Int)==k)=q1:=gF.symm;have hqq:((ah.mk kk t b sc ho wd po pa).src.kind==k&&(ah.mk kk t b sc ho wd po pa).src.text==n.data.toList)=(q1&&q2):=by rw[gF,jr];rfl
   have Oi:=Ih hqq;clear gF jr hqq;cases q1 with
   | false=>
     have HS:Hid ((ys.take (j+1)).any (fun x=>x.src.kind==k&&x.src.text==n.data.toList)=false):=by show _=_;rw[hN.out];exact Oi.out
     clear hN hA Oi
     go_wp2_with fail
     go_roundw
     case rel=>exact⟨j+1,by omega,by go_num,HS,by first |rfl|trivial⟩
     case measure=>simp[intOf];omega
   | true=>
     cases q2 with
     | false=>
       have HS:Hid ((ys.take (j+1)).any (fun x=>x.src.kind==k&&x.src.text==n.data.toList)=false):=by show _=_;rw[hN.out];exact Oi.out
       clear hN hA Oi
       go_wp2_with fail
       go_roundw
       case rel=>exact⟨j+1,by omega,by go_num,HS,by first |rfl|trivial⟩
       case measure=>simp[intOf];omega
     | true=>
       have HV:Hid (R=true):=by show _=_;rw[wM.out];exact hA.out Oi.out
       clear hN hA Oi
       go_wp2_with fail
       go_ret;exact⟨by rw[HV.out];rfl,av⟩
  ·have aK:¬(j:Int)<(m:Int):=by omega
   have HV:Hid (R=false):=by
    show _=_;rw[wM.out,<-List.take_of_length_le (l:=ys) (i:=j) (by rw[<-HM.out];omega),hT.out]
   clear hT
   go_wp2_with fail
   go_ret;exact⟨by rw[HV.out];rfl,av⟩
theorem sj (v:Value) (l:List (List UInt8)) (k:Int) (w:World) (hE:Env w) (h:bQ w v l):Calls Tryz.prog 32 #[v,.int .i64 k] w (a5 (Lz.ip l k) w):=by
 have cL:=Ih (oP v l w hE h.at' h.len (fun x hx=>by have:=h.size x hx;omega));have eu:Hid (∀ys:List ah,ys.map ah.src=Lz.aM l->ys.length<=100000):=Ih (fun ys hy=>h.ylen hy);obtain⟨R,hR⟩:∃R,R=Lz.ip l k:=⟨_,rfl⟩;rw[<-hR]
 have HR:Hid (∀ys:List ah,ys.map ah.src=Lz.aM l->R=ys.any fun x=>x.src.kind==k):=by
  show ∀ys,_;intro ys hy;rw[hR];unfold Lz.ip;rw[<-hy,List.any_map];rfl
 clear hR hE h;go_enter Tryz.func32,Tryz.ntmps32
 go_wp2_with fail
 refine cL.out.mono ?_;rintro e w1 ⟨sv,ys,rfl,gY,wK,av⟩;have nW:=HR.out ys gY.out;have aO:=eu.out ys gY.out;obtain⟨a,c,rfl,hx⟩:=bo.at wK;have Hx:=Ih hx;obtain⟨m,hm⟩:∃m,m=ys.length:=⟨_,rfl⟩;rw[<-hm]at aO⊢;have HM:=Ih hm;have wM:=Ih nW;clear hx hm wK nW HR eu cL
 go_wp2_with fail
 go_loopw [6] (fun i wr=>∃j:Nat,j<=m/\i=.int .i64 (j:Int)/\Hid ((ys.take j).any (fun x=>x.src.kind==k)=false)/\w1=wr) (fun i _=>m-(intOf i).toNat)
 case atStart=>exact⟨0,Nat.zero_le _,rfl,Ih (by simp),rfl⟩
 case round=>
  obtain⟨j,hj,rfl,hT,rfl⟩:=hrel;by_cases aL:j<m
  ·have aK:(j:Int)<(m:Int):=by omega
   have tI:(0:Int)<=(j:Int):=by omega
   obtain⟨x,hx⟩:∃x,ys[j]? =some x:=⟨_,List.getElem?_eq_getElem (by rw[<-HM.out];exact aL)⟩;obtain⟨g,rfl,hg,hc⟩:=Hx.out j x hx;have hN:=Ih (qr hT.out hx);have hA:=Ih (qt (p:=fun x=>x.src.kind==k) hx);obtain⟨kk,t,b,sc,ho,wd,po,pa⟩:=x;have c0:=hc 0 _ rfl
   dsimp only at c0
   rw[Nat.add_zero]at c0;clear hx hc hT;obtain⟨q1,gF⟩:∃q,q=(kk==k):=⟨_,rfl⟩;have f1:((kk:Int)==k)=q1:=gF.symm;have hqq:((ah.mk kk t b sc ho wd po pa).src.kind==k)=q1:=by rw[gF];rfl
   have Oi:=Ih hqq;clear gF hqq;cases q1 with
   | false=>
     have HS:Hid ((ys.take (j+1)).any (fun x=>x.src.kind==k)=false):=by show _=_;rw[hN.out];exact Oi.out
     clear hN hA Oi
     go_wp2_with fail
     go_roundw
     case rel=>exact⟨j+1,by omega,by go_num,HS,by first |rfl|trivial⟩
     case measure=>simp[intOf];omega
   | true=>
     have HV:Hid (R=true):=by show _=_;rw[wM.out];exact hA.out Oi.out
     clear hN hA Oi
     go_wp2_with fail
     go_ret;exact⟨by rw[HV.out];rfl,av⟩
  ·have aK:¬(j:Int)<(m:Int):=by omega
   have HV:Hid (R=false):=by
    show _=_;rw[wM.out,<-List.take_of_length_le (l:=ys) (i:=j) (by rw[<-HM.out];omega),hT.out]
   clear hT
   go_wp2_with fail
   go_ret;exact⟨by rw[HV.out];rfl,av⟩
end Go.Proofs.YtibcmemcfjhgmaaGreatDoor
