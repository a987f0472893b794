/-
  lazaretlaw08.Same; package urls: at.
-/
import Derived.Test.YtfepgodjaeddgaaGreatDoorR32
set_option maxHeartbeats 2000000
set_option maxRecDepth 100000
namespace Go.Proofs.YtfepgodjaeddgaaGreatDoor
open Go.RowKit
theorem decDigits_len2:∀(k n:Nat),n<10^(k+1)->(Lib.decDigits n).length<=k+1
 | 0,n,h=>by rw[Lib.decDigits,dif_pos (by simpa using h)];simp
 | k+1,n,h=>by
   rw[Lib.decDigits];split
   ·simp
   ·rw[List.length_append];have:=decDigits_len2 k (n / 10) (by rw[Nat.pow_succ]at h;omega)
    simp
    omega
theorem itoa_len2 {n:Int} (h0: -9223372036854775808<=n) (h1:n<=9223372036854775807):(Lib.itoa n).length<=21:=by
 unfold Lib.itoa;split
 ·have:=decDigits_len2 19 n.natAbs (by omega)
  simp
  omega
 ·have:=decDigits_len2 19 n.toNat (by omega);omega
def AtE (w1 W:World):Prop:=EnvH W/\Below w1.heap.size w1 W
def AtS (hst:ByteArray) (prt:Int) (B:Nat) (w W:World):Prop:=W.cell? ⟨B,4,none⟩=some (.string hst)/\W.cell? ⟨B,5,none⟩=some (.int .i64 prt)/\AtE w W
theorem at_any (v:Value) (u:Lz.UrlL) (w:World) (hv:UrlVal w v u) (hE:EnvH w) (h0: -9223372036854775808<=u.port) (h1:u.port<=9223372036854775807) (hL:u.host.length<=1000000000):Calls Tryz.prog 58 #[v] w (RStr (Lz.atU u) w):=by
 obtain⟨sch,usr,pas,hh,hst,prt,opq,a,c,xs,hq,hf,qry,frg,rfl,rfl,hx⟩:=hv.form;replace h0: -9223372036854775808<=prt:=h0;replace h1:prt<=9223372036854775807:=h1;replace hL:hst.data.toList.length<=1000000000:=hL;rw[len_of_size]at hL;obtain⟨goal,hg⟩:∃goal,goal=Lz.atU ⟨sch.data.toList,usr.data.toList,pas.data.toList,hh,hst.data.toList,prt,opq,xs.map (fun x:ByteArray=>x.data.toList),hq,hf,qry.data.toList,frg.data.toList⟩:=⟨_,rfl⟩;rw[<-hg];have hg2:goal=if prt= -1 then hst.data.toList else hst.data.toList++[58]++Lib.itoa prt:=hg;have HG:=Ih hg2;obtain⟨W,hW⟩:∃W,W=w.alloc (.cells #[.string sch,.string usr,.string pas,.bool hh,.string hst,.int .i64 prt,.bool opq,.slice a xs.length c,.bool hq,.bool hf,.string qry,.string frg] 29):=⟨_,rfl⟩;have hbW:Below w.heap.size w W:=by rw[hW];exact(Below.refl _ w).alloc (Nat.le_refl _) _
 have hR:W.heap[w.heap.size]? =some (.cells #[.string sch,.string usr,.string pas,.bool hh,.string hst,.int .i64 prt,.bool opq,.slice a xs.length c,.bool hq,.bool hf,.string qry,.string frg] 29 (0,0)):=by rw[hW];exact heap_new _ _
 have hlt:=row_lt hR;have c4:=rowAt hR 4 (.string hst) rfl;have c5:=rowAt hR 5 (.int .i64 prt) rfl;have HW:=Ih hW;have HE:=Ih (hE.below hbW);clear hW hR hv hx hg hg2 hE;by_cases hp:prt= -1
 ·have hpb:(prt== -1)=true:=by simp[hp]
  have HG2:Hid (goal=hst.data.toList):=by show _=_;rw[HG.out,if_pos hp]
  clear hp;go_enter Tryz.func58,Tryz.ntmps58
  go_wp2_with (rw[<-HW.out])
  go_ret;exact⟨hst,rfl,Ih HG2.out.symm,hbW⟩
 ·have hpb:(prt== -1)=false:=by simp[hp]
  have HG2:Hid (goal=hst.data.toList++[58]++Lib.itoa prt):=by show _=_;rw[HG.out,if_neg hp]
  clear hp;have n1:¬(9223372036854775807<hst.size+1):=by omega
  have hSd:AtS hst prt w.heap.size W W.drew:=⟨c4,c5,HE.out.below (Below.refl _ _).drew,(Below.refl _ _).drew⟩
  have cI:Hid (∀V,AtS hst prt w.heap.size W V->Calls Tryz.prog 106 #[.int .i64 prt] V fun e w'=>∃u:ByteArray,e=.returned (.string u)/\Hid (u.data.toList=Lib.itoa prt)/\u.size<=21/\AtS hst prt w.heap.size W w'):=Ih (by
   rintro V ⟨k4,k5,kE,kb⟩;refine(Itoa_h prt h0 h1 V kE).mono ?_;rintro e w' ⟨u,he,hu,hb'⟩;have hlt':=Nat.lt_of_lt_of_le hlt kb.size;exact⟨u,he,hu,by rw[<-len_of_size,hu.out];exact itoa_len2 h0 h1,by rw[hb'.cell (p:=⟨w.heap.size,4,none⟩) hlt'];exact k4,by rw[hb'.cell (p:=⟨w.heap.size,5,none⟩) hlt'];exact k5,kE.below hb',below_call kb hb'⟩)
  go_enter Tryz.func58,Tryz.ntmps58
  go_wp2_with (rw[<-HW.out])
  go_upto_region 3 with fail
  go_cut [2] (fun s wx=>∃u:ByteArray,s=.string u/\Hid (u.data.toList=goal)/\Below w.heap.size w wx)
  case first=>
   go_region_held3 (fun V=>V.cell? ⟨w.heap.size,4,none⟩=some (.string hst)/\V.cell? ⟨w.heap.size,5,none⟩=some (.int .i64 prt)/\AtE W V) (first |assumption|exact hSd) (first |(go_at_call 106;refine(cI.out _ (by assumption)).mono ?_;rintro e w2 ⟨t,rfl,ht,hs,hS2⟩;have n2:¬(9223372036854775807<hst.size+1+t.size):=(by omega)))
   go_wp2_with fail
   go_meet;exact⟨_,rfl,by show _=_;rw[HG2.out,append_data',append_data',ht.out],hbW.trans (hS2.2.2.2.mono hbW.size)⟩
  case rest=>
   obtain⟨u,rfl,hu,hb⟩:=hcut
   go_wp2_with fail
   go_ret;exact⟨_,rfl,hu,hb⟩
end Go.Proofs.YtfepgodjaeddgaaGreatDoor
