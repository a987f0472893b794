/-
  Plain laws: dots and ports, as lazaretref08 counts them. No program in sight.
-/
import Derived.Test.YtlcbhacofagedaaGreatDoorY11
import Derived.Test.YtlcbhacofagedaaGreatDoorY10
import Derived.Test.YtlcbhacofagedaaGreatDoorY14
import Derived.Test.YtlcbhacofagedaaGreatDoorY07
set_option maxHeartbeats 1000000
set_option maxRecDepth 100000
namespace Go.Proofs.YtlcbhacofagedaaGreatDoor
open Go.RowKit
theorem lH (s:ByteArray) (hs:s.size<=1073741824) (w:World):Calls Tryz.prog 75 #[.string s] w (RB (Lz.bO s.data.toList) w):=by
 have co:=Ih (uo s ⟨#[43,45,46]⟩ hs (by decide) w);generalize ho:Lz.dj (Lz.iP (ByteArray.data ⟨#[43,45,46]⟩).toList) s.data.toList=o at co;by_cases h0:0<s.size
 ·have ci:=Ih (Fg s[0] ⟨#[48,49,50,51,52,53,54,55,56,57,43,45,46]⟩ (by decide) w);generalize hi:Lz.inB (ByteArray.data ⟨#[48,49,50,51,52,53,54,55,56,57,43,45,46]⟩).toList s[0]=i at ci
  have HR:Hid (Lz.bO s.data.toList=(o&& !i)):=by
   show _=_;rw[Lz.D1 s.data.toList s[0] (jX h0),<-ho,<-hi]
  clear ho hi;cases o<;>cases i
  all_goals
   go_enter Tryz.func75,Tryz.ntmps75
   go_wp2_with (first |(go_at_call 115;refine(co.out).mono ?_;rintro e w' ⟨rfl,rfl⟩)|(go_at_call 116;refine(ci.out).mono ?_;rintro e w' ⟨rfl,rfl⟩))
   go_ret;exact ia HR.out
 ·have hn:s.data.toList=[]:=by rw[<-List.length_eq_zero_iff,aa];omega
  have hof:o=false:=by rw[<-ho,hn];rfl
  have HR:Hid (Lz.bO s.data.toList=false):=by show _=_;rw[hn];rfl
  clear ho hn h0;subst hof;go_enter Tryz.func75,Tryz.ntmps75
  go_wp2_with (first |(go_at_call 115;refine(co.out).mono ?_;rintro e w' ⟨rfl,rfl⟩))
  go_ret;exact ia HR.out
theorem S7 {b b':Int} {w:World} (h:b'=b):RI b' w (.returned (.int .i64 b)) w:=⟨by rw[h],rfl⟩
theorem uu (s u:ByteArray) (hs:s.size<=1048576) (hu:u.size<=1048576) (hu0:u.data.toList≠[]) (w:World):Calls Tryz.prog 117 #[.string s,.string u] w (RI (Lib.index s.data.toList u.data.toList) w):=by
 have Hu0:=Ih hu0;clear hu0;go_enter Tryz.func117,Tryz.ntmps117
 go_wp2
 go_loop [5] (fun i=>∃n:Nat,n<=s.size+1/\i=.int .i64 n/\Lib.NoOcc s.data.toList u.data.toList n) (fun i=>s.size+2-(intOf i).toNat)
 case atStart=>exact⟨0,Nat.zero_le _,rfl,Lib.NoOcc.zero _ _⟩
 case round=>
  obtain⟨n,hn,rfl,ic⟩:=hrel;have R5:=Ih ic;clear ic;by_cases aN:(n:Int)+u.size<=s.size
  ·have Ho:=Ih (Lib.occ_of_piece s u n (by omega));generalize hb:((s.extract n (n+u.size)).toList==u.toList)=b at Ho;cases b
   ·go_wp2
    go_round
    case rel=>exact⟨n+1,by omega,by go_num,R5.out.succ Ho.out⟩
    case measure=>simp[intOf];omega
   ·go_wp2
    go_ret;exact S7 (Lib.index_hit R5.out (by rw[aa];omega) Ho.out)
  ·go_wp2
   go_ret;exact S7 (Lib.index_past Hu0.out R5.out (by rw[aa,aa];omega))
theorem LX (s:ByteArray) (hs:s.size<=1073741824) (w:World):Calls Tryz.prog 118 #[.string s] w (RB (s.data.toList.all Lz.dA) w):=by
 obtain⟨g,hg⟩:∃g:Bool,s.data.toList.all Lz.dA=g:=⟨_,rfl⟩;rw[hg];have Hg:=Ih hg;clear hg;go_enter Tryz.func118,Tryz.ntmps118
 go_wp2
 go_loop [3] (fun i=>∃n:Nat,n<=s.size/\i=.int .i64 n/\(∀j c,j<n->s.data.toList[j]? =some c->Lz.dA c=true)) (fun i=>s.size-(intOf i).toNat)
 case atStart=>exact⟨0,Nat.zero_le _,rfl,fun j c h=>by omega⟩
 case round=>
  obtain⟨n,hn,rfl,ey⟩:=hrel;have fZ:=Ih ey;clear ey;by_cases aN:n<s.size
  ·have nh:=Ih (jX aN);have jd:=Lz.Ly s[n];have ci:=Ih (Fg s[n] ⟨#[63,35,59,44,34,60,62,92,94,96,123,124,125]⟩ (by decide) w);generalize hi:Lz.inB (ByteArray.data ⟨#[63,35,59,44,34,60,62,92,94,96,123,124,125]⟩).toList s[n]=i at ci;have AC:Lz.inB [63,35,59,44,34,60,62,92,94,96,123,124,125] s[n]=i:=hi;rw[AC]at jd;clear hi AC
   have qG:Lz.dA s[n]=false->g=false:=fun h=>by
    rw[<-Hg.out,List.all_eq_false];exact⟨s[n],List.mem_of_getElem? nh.out,by simp[h]⟩
   have DE:=Ih qG;clear qG;by_cases h1:33<=(s[n].toNat:Int)
   ·by_cases h2:(s[n].toNat:Int)<=126
    ·rw[decide_eq_true h1,decide_eq_true h2]at jd;have wX:=Ih jd;clear jd;cases i
     ·go_wp2_with (first |(go_at_call 116;refine(ci.out).mono ?_;rintro e w' ⟨rfl,rfl⟩))
      go_round
      case rel=>exact⟨n+1,by omega,by go_num,fun j c hj hc=>by
       by_cases sC:j<n
       ·exact fZ.out j c sC hc
       ·obtain rfl:j=n:=by omega
        rw[nh.out]at hc;obtain rfl:=Option.some.inj hc;exact wX.out⟩
      case measure=>simp[intOf];omega
     ·go_wp2_with (first |(go_at_call 116;refine(ci.out).mono ?_;rintro e w' ⟨rfl,rfl⟩))
      go_ret;exact ia (DE.out wX.out)
    ·rw[decide_eq_false h2]at jd;have wX:=Ih (show Lz.dA s[n]=false by rw[jd];simp);have F6:126<(s[n].toNat:Int):=by omega
     clear jd h2
     go_wp2
     go_ret;exact ia (DE.out wX.out)
   ·rw[decide_eq_false h1]at jd;have wX:=Ih (show Lz.dA s[n]=false by rw[jd];simp);have An:(s[n].toNat:Int)<33:=by omega
    clear jd h1
    go_wp2
    go_ret;exact ia (DE.out wX.out)
  ·have HT:Hid (g=true):=by
    show _=_;rw[<-Hg.out,List.all_eq_true];intro c hc;obtain⟨j,hj⟩:=List.getElem?_of_mem hc;exact fZ.out j c (by have:=(List.getElem?_eq_some_iff.1 hj).1;rw[aa]at this;omega) hj
   go_wp2
   go_ret;exact ia HT.out
theorem zY (s:ByteArray) (hs:s.size<=1073741824) (w:World):Calls Tryz.prog 120 #[.string s] w (RB (Lz.eF s.data.toList) w):=by
 have hg:=Lz.Fp s.data.toList;generalize Lz.eF s.data.toList=g at hg⊢;have Hg:=Ih hg;clear hg;go_enter Tryz.func120,Tryz.ntmps120
 go_wp2
 go_loop [3,4] (fun f i=>∃a b:Nat,a<=b/\b<=s.size+1/\(b=s.size+1->a=b)/\f=.int .i64 a/\i=.int .i64 b/\Hid (Lz.NoC 46 s.data.toList a b)/\Hid (b<=s.size->g=Lz.gv s.data.toList a)/\Hid (b=s.size+1->g=true)) (fun _ i=>s.size+1-(intOf i).toNat)
 case atStart=>exact⟨0,0,Nat.le_refl _,Nat.zero_le _,(fun h=>by omega),rfl,rfl,(fun j h1 h2=>by omega),(fun _=>Hg.out),(fun h=>by omega)⟩
 case round=>
  obtain⟨a,b,TV,hb,hx,rfl,rfl,ic,Lk,qx⟩:=hrel;have Hx:=Ih hx;clear hx;by_cases aN:(b:Int)<=s.size
  ·have Xf:=Ih (Lk.out (by omega));clear Lk qx;have hz:=aJ s a b;have co:=Ih (uo (s.extract a b) ⟨#[45]⟩ (by omega) (by decide) w);generalize ho:Lz.dj (Lz.iP (ByteArray.data ⟨#[45]⟩).toList) (s.extract a b).data.toList=o at co
   have ho':Lz.dj Lz.fC ((s.data.toList.drop a).take (b-a))=o:=by
    rw[<-ho,Lib.extract_data];exact(Lz.oH Lz.IM _).symm
   have Ho:=Ih ho';clear ho ho' hz;by_cases Gh:b<s.size
   ·have nh:=Ih (jX Gh);have dG:((b:Int)==(s.size:Int))=false:=beq_eq_false_iff_ne.2 (by omega);by_cases hd:s[b]=46
    ·have hq:((s[b].toNat:Int)==46)=true:=(jO s[b] 46).trans (by simpa using hd);have Hd:=Ih hd;clear hd;have Hs:=Ih (Lz.DV TV ic.out (by rw[nh.out,Hd.out]));cases o
     ·go_wp2_with (first |(go_at_call 115;(with_reducible refine(co.out).mono ?_);rintro e w' ⟨rfl,rfl⟩))
      go_ret;exact ia (by rw[Xf.out,Hs.out,Ho.out];rfl)
     ·go_wp2_with (first |(go_at_call 115;(with_reducible refine(co.out).mono ?_);rintro e w' ⟨rfl,rfl⟩))
      go_round
      case rel=>exact⟨b+1,b+1,by omega,by omega,(fun _=>rfl),by go_num,by go_num,(fun j h1 h2=>by omega),(fun _=>by rw[Xf.out,Hs.out,Ho.out];rfl),(fun h=>by omega)⟩
      case measure=>simp[intOf];omega
    ·have hq:((s[b].toNat:Int)==46)=false:=(jO s[b] 46).trans (by simpa using hd);have Hd:=Ih hd;clear hd
     go_wp2
     go_round
     case rel=>exact⟨a,b+1,by omega,by omega,(fun h=>by omega),rfl,by go_num,(fun j h1 h2=>by
      by_cases Wr:j<b
      ·exact ic.out j h1 Wr
      ·obtain rfl:j=b:=by omega
       rw[nh.out];intro h;exact Hd.out (Option.some.inj h)),(fun _=>Xf.out),(fun h=>by omega)⟩
     case measure=>simp[intOf];omega
   ·have DJ:((b:Int)==(s.size:Int))=true:=beq_iff_eq.2 (by omega);have Hbs:=Ih (show b=s.size by omega);have hd:(s.data.toList.drop a).take (b-a)=s.data.toList.drop a:=List.take_of_length_le (by rw[List.length_drop,aa,<-Hbs.out];exact Nat.le_refl _)
    have HR:Hid (g=o):=by
     show _=_;rw[Xf.out,Lz.IJ (by rw[aa,<-Hbs.out];exact ic.out),<-Ho.out,hd]
    clear hd;cases o
    ·go_wp2_with (first |(go_at_call 115;(with_reducible refine(co.out).mono ?_);rintro e w' ⟨rfl,rfl⟩))
     go_ret;exact ia HR.out
    ·go_wp2_with (first |(go_at_call 115;(with_reducible refine(co.out).mono ?_);rintro e w' ⟨rfl,rfl⟩))
     go_round
     case rel=>exact⟨b+1,b+1,by omega,by omega,(fun _=>rfl),by go_num,by go_num,(fun j h1 h2=>by omega),(fun h=>by omega),(fun _=>HR.out)⟩
     case measure=>simp[intOf];omega
  ·have HR:=Ih (qx.out (by omega));clear Lk qx
   go_wp2
   go_ret;exact ia HR.out
def XR (o:Option Int) (w:World) (e:Ending) (w':World):Prop:=∃n:Int,e=.returned (.tuple #[.int .i64 n,.bool o.isSome])/\Hid (∀m,o=some m->n=m)/\w=w'
theorem UH (c:UInt8):Lz.aA c=(decide (48<=(c.toNat:Int))&&decide ((c.toNat:Int)<=57)):=by
 revert c;exact Lz.au (by decide +kernel)
theorem Fy (s:ByteArray) (hs:s.size<=1073741824) (w:World):Calls Tryz.prog 119 #[.string s] w (XR (Lz.ez s.data.toList) w):=by
 by_cases eJ:s.data.toList=[42]
 ·have hst:(s.toList==[42])=true:=by rw[Lib.toList_data,eJ];rfl
  have HR:Hid (Lz.ez s.data.toList=some (-2)):=by show _=_;unfold Lz.ez;rw[if_pos eJ]
  clear eJ;go_enter Tryz.func119,Tryz.ntmps119
  go_wp2
  go_ret2
  refine⟨_,by rw[HR.out];rfl,?_,rfl⟩;show ∀m,_;intro m hm;rw[HR.out]at hm;exact Option.some.inj hm
 ·have hst:(s.toList==[42])=false:=by rw[Lib.toList_data];simpa using eJ
  have Hs:=Ih eJ;clear eJ;go_enter Tryz.func119,Tryz.ntmps119
  go_wp2
  go_loop [4,5] (fun v i=>∃k:Nat,k<=s.size/\i=.int .i64 k/\v=.int .i64 (Lz.capV (s.data.toList.take k))/\(∀(j:Nat) c,j<k->s.data.toList[j]? =some c->Lz.aA c=true)) (fun _ i=>s.size-(intOf i).toNat)
  case atStart=>exact⟨0,Nat.zero_le _,rfl,rfl,fun j c h=>by omega⟩
  case round=>
   obtain⟨k,hk,rfl,rfl,ey⟩:=hrel;have fZ:=Ih ey;clear ey;have qA:=Lz.Q6 (s.data.toList.take k);by_cases aN:k<s.size
   ·have nh:=Ih (jX aN);have jd:=UH s[k]
    have qG:Lz.aA s[k]=false->Lz.ez s.data.toList=none:=fun h=>by
     refine Lz.xi Hs.out ?_;unfold Lz.dj
     have:s.data.toList.all Lz.aA=false:=by
      rw[List.all_eq_false];exact⟨s[k],List.mem_of_getElem? nh.out,by simp[h]⟩
     rw[this];rfl
    have DE:=Ih qG;clear qG;have ab6:=d9 s[k];by_cases h1:48<=(s[k].toNat:Int)
    ·by_cases h2:(s[k].toNat:Int)<=57
     ·rw[decide_eq_true h1,decide_eq_true h2]at jd;have wX:=Ih jd;clear jd;have iV:=Lz.xx (s.data.toList.take k) s[k];rw[show s.data.toList.take k++[s[k]]=s.data.toList.take (k+1) by rw[List.take_succ_eq_append_getElem (by rw[aa];exact aN)];rfl]at iV;have Zj:=Ih iV;clear iV
      go_wp2
      go_round
      case rel=>exact⟨k+1,by omega,by go_num,by rw[Zj.out];go_num,fun j c hj hc=>by
       by_cases sC:j<k
       ·exact fZ.out j c sC hc
       ·obtain rfl:j=k:=by omega
        rw[nh.out]at hc;obtain rfl:=Option.some.inj hc;exact wX.out⟩
      case measure=>simp[intOf];omega
     ·rw[decide_eq_false h2]at jd;have wX:=Ih (show Lz.aA s[k]=false by rw[jd];simp);have F6:57<(s[k].toNat:Int):=by omega
      clear jd h2
      go_wp2
      go_ret2
      refine⟨_,by rw[DE.out wX.out];rfl,?_,rfl⟩;show ∀m,_;intro m hm;rw[DE.out wX.out]at hm;cases hm
    ·rw[decide_eq_false h1]at jd;have wX:=Ih (show Lz.aA s[k]=false by rw[jd];simp);have An:(s[k].toNat:Int)<48:=by omega
     clear jd h1
     go_wp2
     go_ret2
     refine⟨_,by rw[DE.out wX.out];rfl,?_,rfl⟩;show ∀m,_;intro m hm;rw[DE.out wX.out]at hm;cases hm
   ·have Pm:s.data.toList.take k=s.data.toList:=List.take_of_length_le (by rw[aa];omega);rw[Pm]at qA⊢;clear Pm;by_cases h0:0<s.size
    ·have dG:s.toList.isEmpty=false:=by
      rw[Lib.toList_data];cases hl:s.data.toList with
      | nil=>rw[<-aa,hl]at h0;simp at h0
      | cons _ _=>rfl
     have hd:Lz.dj Lz.aA s.data.toList=true:=by
      unfold Lz.dj;rw[Lib.toList_data]at dG;rw[dG,List.all_eq_true.2]
      ·rfl
      ·intro c hc;obtain⟨j,hj⟩:=List.getElem?_of_mem hc;exact fZ.out j c (by have:=(List.getElem?_eq_some_iff.1 hj).1;rw[aa]at this;omega) hj
     have HP:=Ih (Lz.BZ hd);clear hd;generalize Lz.capV s.data.toList=cv at HP qA⊢;by_cases hc:cv<=65535
     ·have HQ:Hid (Lz.ez s.data.toList=some (cv:Int)):=by show _=_;rw[HP.out,if_pos hc]
      have DK:(cv:Int)<=65535:=by omega
      go_wp2
      go_ret2
      refine⟨_,by rw[HQ.out];rfl,?_,rfl⟩;show ∀m,_;intro m hm;rw[HQ.out]at hm;exact Option.some.inj hm
     ·have HQ:Hid (Lz.ez s.data.toList=none):=by show _=_;rw[HP.out,if_neg hc]
      have DK:decide ((cv:Int)<=65535)=false:=by simp;omega
      have qH:65535<(cv:Int):=by omega
      go_wp2
      go_ret2
      refine⟨_,by rw[HQ.out];rfl,?_,rfl⟩;show ∀m,_;intro m hm;rw[HQ.out]at hm;cases hm
    ·have hl:s.data.toList=[]:=by rw[<-List.length_eq_zero_iff,aa];omega
     have dG:s.toList.isEmpty=true:=by rw[Lib.toList_data,hl];rfl
     have HQ:Hid (Lz.ez s.data.toList=none):=by
      show _=_;exact Lz.xi Hs.out (by rw[hl];rfl)
     clear hl
     go_wp2
     go_ret2
     refine⟨_,by rw[HQ.out];rfl,?_,rfl⟩;show ∀m,_;intro m hm;rw[HQ.out]at hm;cases hm
theorem Uu (c:UInt8):((Lz.low1 c).toNat:Int)=if 65<=(c.toNat:Int)/\(c.toNat:Int)<=90 then(c.toNat:Int)+32 else c.toNat:=by
 revert c
 exact Lz.au (by decide +kernel)
theorem BK (s:ByteArray) (hs:s.size<=140737488355328) (w:World):Calls Tryz.prog 24 #[.string s] w fun e w'=>e=.returned (.string ⟨(Lz.low s.data.toList).toArray⟩)/\Below w.heap.size w w':=by
 obtain⟨i0,hi,ig,fs,fk⟩:=info_parts Tryz.infoU8;go_enter Tryz.func24,Tryz.ntmps24
 go_wp2
 go_loopw [3,4] (fun v i wr=>∃k:Nat,k<=s.size/\i=.int .i64 k/\wr.ownsRow w.heap.size 5 1 v k (u8s (Lz.low (s.data.toList.take k)))/\Below w.heap.size w wr) (fun _ i _=>s.size-(intOf i).toNat)
 case atStart=>exact⟨0,Nat.zero_le _,rfl,World.ownsRow_nil _ _ _ _,Below.refl _ _⟩
 case round=>
  obtain⟨k,hk,rfl,aQ,hb⟩:=hrel;have bZ:=Ih aQ;have dV:=hb.size;by_cases aN:k<s.size
  ·have hc:=d9 s[k];have hl:=Uu s[k]
   have hst:u8s (Lz.low (s.data.toList.take k))++[.int .u8 ((Lz.low1 s[k]).toNat:Int)]=u8s (Lz.low (s.data.toList.take (k+1))):=by
    rw[uz,List.take_succ_eq_append_getElem (by rw[aa];exact aN)]
    simp[Lz.low]
    rfl
   have fQ:=Ih hst;clear hst aQ;by_cases Al:65<=(s[k].toNat:Int)/\(s[k].toNat:Int)<=90
   ·rw[if_pos Al]at hl;obtain⟨h1,h2⟩:=Al;have Hl:=Ih hl;clear hl
    go_wp2_with (at_builtin;refine wpList_append_own _ rfl (.tmp 23) (.tmp 25) 63 rfl w.heap.size 5 i0 (.int .u8 0) 1 1 Tryz.underlying63 hi ig fs fk rfl (by decide) _ _ _ rfl (bZ.out.alloc _) ⟨wr.heap.size,0,none⟩ 1 1 [.int .u8 ((s[k].toNat:Int)+32)] rfl rfl (aY _ _ _) (by simp[Value.oneCell']) (by unfold maxLen;omega) (by omega) (by simp;omega) ?_)
    intro v' w1 aE aV _;have aC:=Below.grown1 hb bZ.out aV dV (Nat.le_refl _);rw[<-Hl.out,fQ.out]at aE;have eK:=Ih aE;clear aE aV fQ Hl hb
    go_wp2
    go_roundw
    case rel=>exact⟨k+1,by omega,by go_num,eK.out,aC⟩
    case measure=>simp[intOf];omega
   ·rw[if_neg Al]at hl;have gT:(s[k].toNat:Int)<65\/(65<=(s[k].toNat:Int)/\90<(s[k].toNat:Int)):=by omega
    have Hl:=Ih hl;clear hl Al;rcases gT with h1|⟨h1,h2⟩
    all_goals
     go_wp2_with (at_builtin;refine wpList_append_own _ rfl (.tmp 23) (.tmp 25) 63 rfl w.heap.size 5 i0 (.int .u8 0) 1 1 Tryz.underlying63 hi ig fs fk rfl (by decide) _ _ _ rfl (bZ.out.alloc _) ⟨wr.heap.size,0,none⟩ 1 1 [.int .u8 (s[k].toNat:Int)] rfl rfl (aY _ _ _) (by simp[Value.oneCell']) (by unfold maxLen;omega) (by omega) (by simp;omega) ?_)
     intro v' w1 aE aV _;have aC:=Below.grown1 hb bZ.out aV dV (Nat.le_refl _);rw[<-Hl.out,fQ.out]at aE;have eK:=Ih aE;clear aE aV fQ Hl hb
     go_wp2
     go_roundw
     case rel=>exact⟨k+1,by omega,by go_num,eK.out,aC⟩
     case measure=>simp[intOf];omega
  ·have sV:=um aQ;rw[List.take_of_length_le (by rw[aa];omega)]at sV;clear aQ bZ
   go_wp2
   go_ret;exact⟨rfl,hb⟩
theorem fh (s:ByteArray) (hs:s.size<=140737488355328) (w:World):Calls Tryz.prog 24 #[.string s] w fun e w'=>∃u:ByteArray,e=.returned (.string u)/\Hid (u.data.toList=Lz.low s.data.toList)/\Below w.heap.size w w':=
 (BK s hs w).mono fun _ _ ⟨he,hb⟩=>⟨_,he,rfl,hb⟩
def PL (s h:ByteArray) (w:World) (e:Ending) (w':World):Prop:=
 ∃u:ByteArray,e=.returned (.tuple #[.string u,.bool (Lib.hasPrefix (Lz.low s.data.toList) h.data.toList)])/\Hid (Lib.hasPrefix (Lz.low s.data.toList) h.data.toList=true->u.data.toList=s.data.toList.drop h.size)/\u.size<=s.size/\Below w.heap.size w w'
theorem uL (s h:ByteArray) (hs:s.size<=1073741824) (w:World):Calls Tryz.prog 113 #[.string s,.string h] w (PL s h w):=by
 by_cases aN:(s.size:Int)<h.size
 ·have hp:Lib.hasPrefix (Lz.low s.data.toList) h.data.toList=false:=Lz.lf (by rw[Lz.p9,aa,aa];omega);have Hp:=Ih hp;clear hp;go_enter Tryz.func113,Tryz.ntmps113
  go_wp2
  go_ret2
  exact⟨_,by rw[Hp.out];rfl,Ih (fun e=>by rw[Hp.out]at e;cases e),Nat.zero_le _,Below.refl _ _⟩
 ·have hz:=aJ s 0 h.size;have cl:=Ih (fh (s.extract 0 h.size) (by omega) w);clear hz;have o6:(h.size:Int)<=s.size:=by omega
  clear aN;go_enter Tryz.func113,Tryz.ntmps113
  go_wp2_with fail
  refine(cl.out).mono ?_;rintro e w1 ⟨u,rfl,hu,aC⟩
  have hq:(u.toList==h.toList)=Lib.hasPrefix (Lz.low s.data.toList) h.data.toList:=by
   rw[Lib.toList_data,Lib.toList_data,hu.out,nX,Lz.NK,<-aa];exact Lz.take_prefix _ _
  have bV:(u.toList != h.toList)= !Lib.hasPrefix (Lz.low s.data.toList) h.data.toList:=by rw[<-hq];rfl
  clear hu cl;generalize hp:Lib.hasPrefix (Lz.low s.data.toList) h.data.toList=p at hq bV;have Hp:=Ih hp;clear hp;cases p
  ·go_wp2
   go_ret2
   exact⟨_,by rw[Hp.out];rfl,Ih (fun e=>by rw[Hp.out]at e;cases e),Nat.zero_le _,aC⟩
  ·go_wp2
   go_ret2
   exact⟨_,by rw[Hp.out];rfl,Ih (fun _=>aP _ _),aJ _ _ _,aC⟩
end Go.Proofs.YtlcbhacofagedaaGreatDoor
namespace Lz
open Go
theorem IL:∀n:Fin 256,gz (Lib.decDigits n.val)=some n.val:=by decide +kernel
theorem Mm {n:Nat} (h:n<256):gz (Lib.decDigits n)=some n:=IL ⟨n,h⟩
theorem vf:∀ls:List Bs,ls≠[]->∀x:Bs,dv [58] (ls++[x])=dv [58] ls++[58]++x
 | [],h,_=>absurd rfl h
 | [y],_,x=>rfl
 | y::z::r,_,x=>by
   have:=vf (z::r) (by simp) x;show dv [58] (y::z::(r++[x]))=_;rw[dv,show(z::(r++[x]):List Bs)=(z::r)++[x]from rfl,this]
   simp[dv]
theorem xR {sp:Bool} (s:Bs):bD sp s≠[]:=by
 cases s with
 | nil=>simp[bD]
 | cons a r=>
   rw[bD];split
   ·simp
   ·split<;>simp
theorem th {r:UR} {f:af->UR} {v:af} (h:r.bind f=.ok v):∃u,r=.ok u/\f u=.ok v:=by
 cases r with
 | ok u=>exact⟨u,rfl,h⟩
 | er n=>cases h
theorem uR {u v:af} {s:Bs} (e:bQ u s=.ok v):∃h,v={u with host:=h,hasHost:=true}/\aD s (ae u.scheme)=.ok h:=by
 unfold bQ at e;cases hp:aD s (ae u.scheme)with
 | er n=>rw[hp]at e;cases e
 | ok h=>
   rw[hp]at e;injection e with e
   exact⟨h,e.symm,rfl⟩
structure G7 (u:af):Prop where
 user:u.user=[]
 pass:u.pass=[]
 hasHost:u.hasHost=false
 host:u.host=[]
 port:u.port= -1
 opq:u.opq=false
 path:u.path=[]
theorem rW {k:UInt8}:∀{s:Bs},k∈s->∃a b,s=a++k::b/\k∉a
 | [],h=>by cases h
 | c::r,h=>by
   by_cases hc:c=k
   ·exact⟨[],r,by rw[hc];rfl,by simp⟩
   ·have hr:k∈r:=by
     rcases List.mem_cons.1 h with h|h
     ·exact absurd h.symm hc
     ·exact h
    obtain⟨a,b,rfl,ha⟩:=rW hr
    exact⟨c::a,b,rfl,fun hh=>by
     rcases List.mem_cons.1 hh with hh|hh
     ·exact hc hh.symm
     ·exact ha hh⟩
theorem fi (k:UInt8) (s:Bs):k∉(Lib.cut s [k]).1/\((Lib.cut s [k]).2.2=false->(Lib.cut s [k]).1=s/\(Lib.cut s [k]).2.1=[])/\(∀x∈(Lib.cut s [k]).1,x∈s)/\((Lib.cut s [k]).2.2=true->s=(Lib.cut s [k]).1++k::(Lib.cut s [k]).2.1):=by
 by_cases h:k∈s
 ·obtain⟨a,b,rfl,ha⟩:=rW h;rw[vo b ha];exact⟨ha,(fun hh=>by cases hh),fun x hx=>List.mem_append_left _ hx,fun _=>rfl⟩
 ·rw[E1 h];exact⟨h,fun _=>⟨rfl,rfl⟩,fun x hx=>hx,(fun hh=>by cases hh)⟩
def mx (c:Bs×Bs×Bool):Bool:=c.2.2&& !c.1.isEmpty&&(match c.1 with|a::_=>aW a|[]=>false)&&c.1.all be
theorem mz (s:Bs):bp s=if mx (Lib.cut s [58])=true then(low (Lib.cut s [58]).1,(Lib.cut s [58]).2.1,true)else([],s,false):=rfl
theorem dD (of:Bs):∀s:Bs,(ah of s).length<=3*s.length
 | []=>Nat.zero_le _
 | c::r=>by
   have ih:=dD of r;unfold ah at ih⊢;rw[List.flatMap_cons,List.length_append,List.length_cons]
   have:(if c<32||126<c||of.contains c then[37,gm (c.toNat / 16),gm (c.toNat%16)]else[c]:Bs).length<=3:=by
    split
    ·exact Nat.le_refl 3
    ·exact Nat.le_add_left 1 2
   omega
def pl (l:List Bs):Nat:=(M5 l).length
theorem EY (a b:List Bs):pl (a++b)=pl a+pl b:=by simp[pl,M5]
theorem zM (p:Bs):pl [p]=p.length+1:=by simp[pl,M5]
theorem Nf (scheme:Bs) (l:List Bs):pl (bJ scheme l)<=pl l:=by
 unfold bJ;split
 ·exact Nat.le_refl _
 ·rcases List.eq_nil_or_concat l with rfl|⟨r,p,rfl⟩
  ·exact Nat.le_refl _
  ·rw[List.concat_eq_append,List.dropLast_concat,EY];omega
def pw (l:List Bs):Nat:=(l.map fun p=>3*p.length+1).sum
theorem tE (p:Bs) (l:List Bs):pw (p::l)=3*p.length+1+pw l:=by simp[pw]
theorem GK (scheme:Bs):∀(ps gD:List Bs),pl (onL scheme gD ps)<=pl gD+pw ps
 | [],gD=>Nat.le_refl _
 | p::r,gD=>by
   have ih:=fun a=>GK scheme r a;have he:=dD (bc 4) p;have hs:=Nf scheme gD;have h1:∀a:List Bs,pl (a++[[]])=pl a+1:=fun a=>by rw[EY,zM];rfl
   rw[onL,tE]
   try simp only
   generalize ah (bc 4) p=q at he;split
   ·split
    ·have:=ih (bJ scheme gD++[[]]);rw[h1]at this;omega
    ·have:=ih (bJ scheme gD);omega
   ·split
    ·split
     ·have:=ih (gD++[[]]);rw[h1]at this;omega
     ·have:=ih gD;omega
    ·have h2:(if scheme=fileS/\gD=[]/\bu q=true then q.take 1++[58]else q).length<=q.length:=by
      split
      ·rename_i hh
       match q,hh.2.2 with
       | [a,b],_=>exact Nat.le_refl _
      ·exact Nat.le_refl _
     have:=ih (gD++[if scheme=fileS/\gD=[]/\bu q=true then q.take 1++[58]else q]);rw[EY,zM]at this;omega
theorem tU (sp:Bool):∀s:Bs,pw (bD sp s)<=3*s.length+1
 | []=>Nat.le_refl _
 | c::r=>by
   have ih:=tU sp r;rw[bD];split
   ·rw[tE,List.length_cons];simp;omega
   ·cases he:bD sp r with
    | nil=>exact absurd he (xR r)
    | cons x t=>
      rw[he,tE]at ih;show pw ((c::x)::t)<=_;rw[tE,List.length_cons,List.length_cons];omega
theorem ze (u:af) (t:Bs):pl (onP u t).path<=pl u.path+3*t.length+1:=by
 have h1:=GK u.scheme (bD (ae u.scheme) t) u.path;have h2:=tU (ae u.scheme) t;show pl (onL u.scheme u.path (bD (ae u.scheme) t))<=_;omega
theorem lk (k:UInt8) (s:Bs):(Lib.cut s [k]).1.length+(Lib.cut s [k]).2.1.length<=s.length:=by
 have h:=fi k s;cases hc:(Lib.cut s [k]).2.2 with
 | true=>
   have:=congrArg List.length (h.2.2.2 hc);rw[List.length_append,List.length_cons]at this;omega
 | false=>
   obtain⟨h1,h2⟩:=h.2.1 hc;rw[h1,h2];simp
theorem nc (sp:Bool) (s:Bs):(dn sp s).1.length+(dn sp s).2.1.length<=s.length:=by
 have h:∀s:Bs,(s.takeWhile fun c=> !aG sp c).length+(s.dropWhile fun c=> !aG sp c).length=s.length:=by
  intro s;have:=congrArg List.length (List.takeWhile_append_dropWhile (p:=fun c=> !aG sp c) (l:=s))
  rwa [List.length_append]at this
 have:=h s;unfold dn;simp only[List.length_drop];omega
theorem oF:∀{s x y:Bs},cz s=some (x,y)->x.length+y.length+1=s.length
 | [],_,_,h=>by cases h
 | c::r,x,y,h=>by
   rw[cz]at h;cases hl:cz r with
   | some xy=>
     obtain⟨a,b⟩:=xy;rw[hl]at h;have:=oF hl;simp only[Option.some.injEq,Prod.mk.injEq]at h;obtain⟨rfl,rfl⟩:=h;rw[List.length_cons,List.length_cons];omega
   | none=>
     rw[hl]at h;simp only at h;split at h
     ·simp only[Option.some.injEq,Prod.mk.injEq]at h;obtain⟨rfl,rfl⟩:=h
      simp
     ·cases h
theorem qR (sep:Bs) (m:Nat):∀ls:List Bs,(∀x,x∈ls->x.length<=m)->(dv sep ls).length<=ls.length*(m+sep.length)
 | [],_=>by simp[dv]
 | [x],h=>by
   have hx:=h x (by simp)
   simp[dv];omega
 | x::y::r,h=>by
   have hx:=h x (by simp);have hr:=qR sep m (y::r) (fun z hz=>h z (by simp[hz]));rw[dv,List.length_append,List.length_append,List.length_cons,Nat.succ_mul];omega
theorem AQ:∀l:Bs,(an l).length<=l.length:=by
 intro l
 induction h:l.length using Nat.strongRecOn generalizing l with
 | ind n ih=>
   cases l with
   | nil=>rw[an];simp
   | cons c r=>
     rw[an];simp only[List.length_cons]at h;split
     ·have:=ih (r.drop 2).length (by simp;omega) (r.drop 2) rfl
      simp at this⊢;omega
     ·have:=ih r.length (by omega) r rfl
      simp;omega
theorem qT (l:List Nat) (h:∀n∈l,n<65536) (h8:l.length<=8):(bj l).length<=40:=by
 have hj:=qR [58] 4 (l.map fd) (by
  intro x hx;obtain⟨n,hn,rfl⟩:=List.mem_map.1 hx;exact qt 3 n (by simpa using h n hn))
 rw[List.length_map]at hj;unfold bj
 simp at hj;omega
theorem Kj (a:List Nat) (h8:a.length=8) (hl:∀n∈a,n<65536):(ef a).length<=100:=by
 unfold ef;have h1:=qT a hl (by omega);have h2:=qT (a.take (fT 0 a (0,0)).1) (fun n hn=>hl n (List.mem_of_mem_take hn)) (by rw[List.length_take];omega);have h3:=qT (a.drop (fT 0 a (0,0)).2) (fun n hn=>hl n (List.mem_of_mem_drop hn)) (by rw[List.length_drop];omega);split
 ·omega
 ·rw[List.length_append,List.length_append];show _+2+_<=_;omega
theorem wM:∀(k m:Nat),m<10^(k+1)->(Lib.decDigits m).length<=k+1:=by
 intro k
 induction k with
 | zero=>intro m h;rw[Lib.decDigits,dif_pos (by simpa using h)];simp
 | succ k ih=>
   intro m h;rw[Lib.decDigits];split
   ·simp
   ·have:=ih (m / 10) (by rw[Nat.pow_succ]at h;omega)
    simp;omega
theorem Bd (b:List Nat) (h:b.length=4) (hl:∀n∈b,n<256):(cu b).length<=16:=by
 have hj:=qR [46] 3 (b.map fun x=>Lib.decDigits x) (by
  intro x hx;obtain⟨n,hn,rfl⟩:=List.mem_map.1 hx;exact wM 2 n (by have:=hl n hn;simp;omega))
 rw[List.length_map,h]at hj;exact hj
theorem yn (s h:Bs) (b:Bool) (e:aD s b=.ok h):h.length<=3*s.length+110:=by
 unfold aD at e;split at e
 ·split at e
  ·cases e
  ·cases ha:iI ((s.drop 1).dropLast)with
   | none=>rw[ha]at e;cases e
   | some a=>
     rw[ha]at e;simp only[Option.map_some,ofO]at e;injection e with e
     obtain⟨h8,hl⟩:=oP ha;have:=Kj a h8 hl;rw[<-e,List.length_append,List.length_append];show 1+_+1<=_;omega
 ·split at e
  ·unfold eC at e;simp only at e;split at e
   ·cases e
   ·split at e
    ·cases hf:dJ (br (low (an s)))with
     | none=>rw[hf]at e;cases e
     | some t=>
       rw[hf]at e;simp only[ofO]at e;injection e with e
       obtain⟨b4,h4,hl,rfl⟩:=Ag (qQ _) hf;have:=Bd b4 h4 hl;rw[<-e];omega
    ·injection e with e
     have:=AQ s;rw[<-e];show(low (an s)).length<=_;unfold low;rw[List.length_map];omega
  ·split at e
   ·cases e
   ·injection e with e
    have:=dD [] s;rw[<-e];omega
def wt (u:af):Nat:=u.scheme.length+u.user.length+u.pass.length+u.host.length+pl u.path
theorem rY {s:Bs} (h:(bp s).2.2=true):(bp s).1.length+1+(bp s).2.1.length=s.length:=by
 have hc:=fi 58 s;rw[mz]at h⊢;by_cases hh:mx (Lib.cut s [58])=true
 ·rw[if_pos hh]
  have h1:(Lib.cut s [58]).2.2=true:=by
   unfold mx at hh;simp only[Bool.and_eq_true]at hh;exact hh.1.1.1
  have:=congrArg List.length (hc.2.2.2 h1);rw[List.length_append,List.length_cons]at this;show(low (Lib.cut s [58]).1).length+1+(Lib.cut s [58]).2.1.length=_;unfold low;rw[List.length_map];omega
 ·rw[if_neg hh]at h;cases h
theorem qU (s:Bs):(cf s).length<=s.length:=by
 rw[L8,List.length_reverse];have h1:∀l:Bs,(l.dropWhile tT).length<=l.length:=fun l=>(List.dropWhile_sublist tT).length_le;refine Nat.le_trans (h1 _) ?_;rw[List.length_reverse];refine Nat.le_trans (h1 _) ?_;exact List.length_filter_le _ _
def wq (u:af):Nat:=wt u+u.query.length+u.fragment.length
def iE (scheme:Bs) (path:List Bs) (p:Bs) (fg:Bool):List Bs:=
 let q:=ah (bc 4) p
 if dN q=2 then(if fg=false then bJ scheme path++[[]]else bJ scheme path)
 else if dN q=1 then(if fg=false then path++[[]]else path)
 else path++[if scheme=fileS/\path=[]/\bu q=true then q.take 1++[58]else q]
theorem oI (sp:Bool):∀s:Bs,bD sp s=(dn sp s).1::(if(dn sp s).2.2 then bD sp (dn sp s).2.1 else[])
 | []=>rfl
 | c::r=>by
   have ih:=oI sp r;rw[bD];by_cases h:aG sp c=true
   ·have h1:(dn sp (c::r))=([],r,true):=by simp[dn,h]
    rw[if_pos h,h1]
    simp
   ·have h2:aG sp c=false:=by simpa using h
    have h1:(dn sp (c::r))=(c::(dn sp r).1,(dn sp r).2.1,(dn sp r).2.2):=by simp[dn,h2]
    rw[if_neg h,h1,ih]
theorem tV (scheme:Bs) (path:List Bs) (p:Bs) (r:List Bs):onL scheme path (p::r)=onL scheme (iE scheme path p (!decide (r=[]))) r:=by
 rw[onL,iE];by_cases hr:r=[]
 ·simp only[hr];by_cases h2:dN (ah (bc 4) p)=2
  ·simp[h2]
  ·by_cases h1:dN (ah (bc 4) p)=1<;>simp[h1,h2]
 ·simp only[hr];by_cases h2:dN (ah (bc 4) p)=2
  ·simp[h2]
  ·by_cases h1:dN (ah (bc 4) p)=1<;>simp[h1,h2]
theorem GQ (scheme:Bs) (path:List Bs):onL scheme path []=path:=by rw[onL]
theorem Nr (u:af) (t:Bs):onP u t=if(dn (ae u.scheme) t).2.2 then onP {u with path:=iE u.scheme u.path (dn (ae u.scheme) t).1 true} (dn (ae u.scheme) t).2.1 else{u with path:=iE u.scheme u.path (dn (ae u.scheme) t).1 false}:=by
 unfold onP;rw[oI,tV];cases h:(dn (ae u.scheme) t).2.2
 ·simp[GQ]
 ·simp[xR]
theorem mC (scheme:Bs) (path:List Bs) (p:Bs) (fg:Bool) (h:dN (ah (bc 4) p)=2):iE scheme path p fg=if fg=false then bJ scheme path++[[]]else bJ scheme path:=by simp[iE,h]
theorem mg (scheme:Bs) (path:List Bs) (p:Bs) (fg:Bool) (h:dN (ah (bc 4) p)=1):iE scheme path p fg=if fg=false then path++[[]]else path:=by simp[iE,h]
theorem mV (scheme:Bs) (path:List Bs) (p:Bs) (fg:Bool) (h:dN (ah (bc 4) p)=0):iE scheme path p fg=path++[if scheme=fileS/\path=[]/\bu (ah (bc 4) p)=true then(ah (bc 4) p).take 1++[58]else ah (bc 4) p]:=by simp[iE,h]
theorem rU (p:Bs):dN p=0\/dN p=1\/dN p=2:=by
 unfold dN;split
 ·exact .inr (.inl rfl)
 ·split
  ·exact .inr (.inr rfl)
  ·exact .inl rfl
def plQ (q:UInt8->Bool) (l:Bs):Option Nat:=l.findIdx? q
theorem Mc {q:UInt8->Bool} {l:Bs} (h:plQ q l=none):l.takeWhile (fun c=> !q c)=l/\l.dropWhile (fun c=> !q c)=[]/\l.any q=false:=by
 induction l with
 | nil=>exact⟨rfl,rfl,rfl⟩
 | cons c r ih=>
   rw[plQ,List.findIdx?_cons]at h;cases hc:q c with
   | true=>rw[hc]at h;simp at h
   | false=>
     rw[hc]at h;obtain⟨h1,h2,h3⟩:=ih (by simpa [plQ]using h)
     simp[hc,h1,h2,h3]
theorem BU {q:UInt8->Bool} {l:Bs} {i:Nat} (h:plQ q l=some i):i<l.length/\l.takeWhile (fun c=> !q c)=l.take i/\(l.dropWhile (fun c=> !q c)).drop 1=l.drop (i+1)/\l.any q=true:=by
 induction l generalizing i with
 | nil=>cases h
 | cons c r ih=>
   rw[plQ,List.findIdx?_cons]at h;cases hc:q c with
   | true=>
     rw[hc]at h;obtain rfl:0=i:=by simpa using h
     simp[hc]
   | false=>
     rw[hc]at h;simp only[Bool.false_eq_true,if_false,Option.map_eq_some_iff]at h;obtain⟨k,hk,rfl⟩:=h;obtain⟨h1,h2,h3,h4⟩:=ih hk;exact⟨by simp;omega,by simp[hc,h2],by simp[hc,h3],by simp[hc,h4]⟩
theorem yo {sp:Bool} {s:Bs} (h:plQ (aG sp) s=none):dn sp s=(s,[],false):=by
 obtain⟨h1,h2,h3⟩:=Mc h
 simp[dn,h1,h2,h3]
theorem xC {sp:Bool} {s:Bs} {i:Nat} (h:plQ (aG sp) s=some i):dn sp s=(s.take i,s.drop (i+1),true):=by
 obtain⟨h0,h1,h2,h3⟩:=BU h;unfold dn;rw[h1,h2,h3]
theorem N3 {q:UInt8->Bool} {l:Bs} {i:Nat} (h:plQ q l=some i):i<l.length:=(BU h).1
theorem Bw (q:UInt8->Bool) (l:Bs) (pos:Nat):∀k,(∀j b,pos<=j->j<pos+k->l[j]? =some b->q b=false)->(plQ q (l.drop pos)).map (·+pos)=(plQ q (l.drop (pos+k))).map (·+(pos+k))
 | 0,_=>rfl
 | k+1,h=>by
   rw[Bw q l pos k fun j b h1 h2 hj=>h j b h1 (by omega) hj];by_cases hl:pos+k<l.length
   ·rw[List.drop_eq_getElem_cons hl,plQ,List.findIdx?_cons,h (pos+k) l[pos+k] (by omega) (by omega) (List.getElem?_eq_getElem hl)];show _=Option.map _ (plQ q (l.drop (pos+k+1)));rw[plQ];cases List.findIdx? q (l.drop (pos+k+1))with
    | none=>rfl
    | some n=>simp;omega
   ·rw[List.drop_eq_nil_of_le (by omega),List.drop_eq_nil_of_le (by omega)];rfl
theorem Ka (scheme:Bs) (path:List Bs) (p:Bs) (fg:Bool):(iE scheme path p fg).length<=path.length+1:=by
 have hs:(bJ scheme path).length<=path.length:=by
  unfold bJ;split
  ·exact Nat.le_refl _
  ·simp
 rcases rU (ah (bc 4) p)with h|h|h
 ·rw[mV _ _ _ _ h];simp
 ·rw[mg _ _ _ _ h];split<;>simp
 ·rw[mC _ _ _ _ h];split<;>simp<;>omega
theorem wD {sp:Bool} {s:Bs} (h:(dn sp s).2.2=true):(dn sp s).1.length+(dn sp s).2.1.length+1=s.length:=by
 cases hp:plQ (aG sp) s with
 | none=>rw[yo hp]at h;cases h
 | some i=>
   have:=N3 hp;rw[xC hp]
   simp;omega
theorem js (sp:Bool):(if sp then([47,92]:Bs)else[47]).contains=aG sp:=by
 funext c
 cases sp<;>(rw[Bool.eq_iff_iff];simp[aG])
def spQ (c:UInt8):Bool:=decide (c<=32)
def pSp (x:Nat):Bool:=decide (x<=32)
theorem uU (c:UInt8):pSp c.toNat=spQ c:=by
 unfold pSp spQ;congr 1
theorem Eg {x:Nat} (h:128<=x):pSp x=false:=by unfold pSp;rw[decide_eq_false];omega
theorem EG {c:UInt8} (h:128<=c.toNat):spQ c=false:=by rw[<-uU];exact Eg h
theorem Mp (s:ByteArray):∀f pos,s.size<=pos+f->Lib.idxFuncFrom pSp false s f pos=if(s.data.toList.drop pos).all spQ then -1 else((pos+((s.data.toList.drop pos).takeWhile spQ).length:Nat):Int)
 | 0,pos,h=>by
   rw[List.drop_eq_nil_of_le (by show s.size<=pos;omega)];rfl
 | f+1,pos,h=>by
   rw[Lib.idxFuncFrom];by_cases lV:pos<s.size
   ·rw[if_pos lV]
    have hd:s.data.toList.drop pos=s[pos]::s.data.toList.drop (pos+1):=by
     rw[List.drop_eq_getElem_cons (show pos<s.data.toList.length from lV)];rfl
    rw[hd,List.all_cons];rcases Nat.lt_or_ge (s[pos]'lV).toNat 128 with h1|h1
    ·rw[decode_ascii s pos lV h1,uU];cases hq:spQ s[pos]with
     | false=>simp[hq]
     | true=>
       simp only[Bool.true_and,Bool.true_eq_false,if_false];rw[Mp s f (pos+1) (by omega)];split
       ·rfl
       ·rw[List.takeWhile_cons,hq];simp;omega
    ·rw[Eg (tD s pos lV h1),EG h1]
     simp[EG h1]
   ·rw[if_neg lV,List.drop_eq_nil_of_le (by show s.size<=pos;omega)];rfl
theorem mu (q:UInt8->Bool) (l:Bs):l.drop (l.takeWhile q).length=l.dropWhile q:=by
 induction l with
 | nil=>rfl
 | cons c r ih=>
   rw[List.takeWhile_cons,List.dropWhile_cons];split
   ·simpa using ih
   ·rfl
theorem ws {q:UInt8->Bool} {l:Bs} (h:l.all q=true):l.dropWhile q=[]:=by
 induction l with
 | nil=>rfl
 | cons c r ih=>
   rw[List.all_cons,Bool.and_eq_true]at h;rw[List.dropWhile_cons,if_pos h.1];exact ih h.2
theorem Cl (s:ByteArray):(Lib.trimLeftF pSp s).data.toList=s.data.toList.dropWhile spQ:=by
 unfold Lib.trimLeftF Lib.idxFunc;rw[Mp s s.size 0 (by omega),List.drop_zero];by_cases h:s.data.toList.all spQ=true
 ·rw[if_pos h,if_pos rfl,ws h]
 ·rw[if_neg h,if_neg (by omega)];rw[Lib.extract_data,Nat.zero_add];rw[show((((s.data.toList.takeWhile spQ).length:Nat):Int)).toNat=(s.data.toList.takeWhile spQ).length from rfl,mu,List.take_of_length_le];rw[<-mu,List.length_drop];show s.size-_<=_;exact Nat.le_refl _
theorem B9 {n n' b0 b1 b2 b3 c1 c2 c3:Nat} (h0:128<=b0) (hw:(Lib.decodeN n b0 b1 b2 b3).2=n) (hn:n<=n') (h1:1<n->c1=b1) (h2:2<n->c2=b2) (h3:3<n->c3=b3) (he:n=1->n'=1\/c1 / 64≠2):(Lib.decodeN n' b0 c1 c2 c3).2=n:=by
 rcases Lib.decodeN_shape n b0 b1 b2 b3 with⟨h,_⟩|⟨ha,hb,hc,hd,h⟩|⟨ha,hb,hc,hd,Wm,hf,h⟩|⟨ha,hb,hc,hd,Wm,hf,hg,h⟩|h
 ·omega
 ·rw[h]at hw;obtain rfl:n=2:=hw.symm;rw[h1 (by omega)];unfold Lib.decodeN;rw[if_neg (by omega),if_pos ⟨ha,by omega,hc⟩,if_pos hd]
 ·rw[h]at hw;obtain rfl:n=3:=hw.symm;rw[h1 (by omega),h2 (by omega)];unfold Lib.decodeN;rw[if_neg (by omega),if_neg (by omega),if_pos ⟨ha,⟨by omega,hc⟩,⟨by omega,hd⟩⟩,if_pos ⟨Wm,by omega⟩]
 ·rw[h]at hw;obtain rfl:n=4:=hw.symm;rw[h1 (by omega),h2 (by omega),h3 (by omega)];unfold Lib.decodeN;rw[if_neg (by omega),if_neg (by omega),if_neg (by omega),if_pos ⟨ha,⟨by omega,hc⟩,⟨by omega,hd⟩,⟨by omega,Wm⟩⟩,if_pos ⟨hf,by omega⟩]
 ·rw[h]at hw;obtain rfl:n=1:=hw.symm;have:=he rfl;unfold Lib.decodeN;rw[if_neg (by omega),if_neg (by omega),if_neg (by omega),if_neg (by omega)]
theorem Vp {n b0 b1 b2 b3:Nat} (h0:128<=b0):128<=(Lib.decodeN n b0 b1 b2 b3).1:=by
 rcases Lib.decodeN_shape n b0 b1 b2 b3 with⟨h,_⟩|⟨ha,hb,hc,hd,h⟩|⟨ha,hb,hc,hd,Wm,hf,h⟩|⟨ha,hb,hc,hd,Wm,hf,hg,h⟩|h
 ·omega
 ·rw[h];exact hd
 ·rw[h];show 128<=_;omega
 ·rw[h];show 128<=_;omega
 ·rw[h];show 128<=65533;omega
theorem uA (s:ByteArray) (j:Nat) (h:j<s.size):s.get! j=s[j]'h:=by
 show s.data[j]! =_;rw[getElem!_pos s.data j h];rfl
theorem NU (s:ByteArray) (i:Nat) (nP:0<i) (hi:i<=s.size) (hhi:128<=(s[i-1]'(by omega)).toNat) (qx:∀h:i<s.size,(s[i]'h).toNat<=32):
  128<=(Lib.decodeLastL (s.data.toList.take i)).1/\(Lib.decodeLastL (s.data.toList.take i)).2<=i/\(Utf8.decode s (i-(Lib.decodeLastL (s.data.toList.take i)).2)).2=(Lib.decodeLastL (s.data.toList.take i)).2:=by
 obtain⟨t,ht⟩:∃t:ByteArray,t=s.extract 0 i:=⟨_,rfl⟩;have htd:t.data.toList=s.data.toList.take i:=by rw[ht,Lib.extract_data];rfl
 have AG:t.size=i:=by
  show t.data.toList.length=i;rw[htd,List.length_take];show min i s.size=i;omega
 have hg:∀j,j<i->t.get! j=s.get! j:=fun j hj=>by rw[ht,Go.Proofs.get!_extract' s 0 i j (by omega) hi,Nat.zero_add]
 have fu:(s.get! (i-1)).toNat=(s[i-1]'(by omega)).toNat:=by rw[uA s (i-1) (by omega)]
 have KZ:(Utf8.decode s (i-1)).2=1:=by
  rw[Lib.decode_at,show i-1+1=i by omega];refine B9 (n:=1) (n':=s.size-(i-1)) (b1:=0) (b2:=0) (b3:=0) (by omega) ?_ (by omega) (by omega) (by omega) (by omega) (fun _=>?_)
  ·rcases Lib.decodeN_shape 1 (s.get! (i-1)).toNat 0 0 0 with⟨h,_⟩|⟨_,h,_⟩|⟨_,h,_⟩|⟨_,h,_⟩|h
   ·omega
   ·omega
   ·omega
   ·omega
   ·rw[h]
  ·by_cases h:i<s.size
   ·right;have:=qx h;rw[uA s i h];omega
   ·left;omega
 rw[<-htd,Lib.decodeLastL_eq t (by omega) (by rw[AG,hg (i-1) (by omega),fu];exact hhi)]
 have Aq:=Lib.lastStart_lt t.data.toList (fun h=>by
  have h0:t.data.toList.length=0:=by rw[h];rfl
  have h1:t.data.toList.length=i:=AG;omega)
 have Z8:Lib.lastStart t.data.toList<i:=by rw[<-AG];exact Aq
 unfold Lib.lastOf;obtain⟨k,hk⟩:∃k,k=Lib.lastStart t.data.toList:=⟨_,rfl⟩;rw[<-hk]at Z8⊢
 have Lk:Lib.decodeGo (t.extract k t.size)=Utf8.decode t k:=by
  unfold Lib.decodeGo;rw[if_neg (by rw[ByteArray.size_extract];omega),Lib.tail_decode];rfl
 rw[Lk,AG];by_cases he:k+(Utf8.decode t k).2=i
 ·rw[if_pos he]
  have hd:Utf8.decode t k=Lib.decodeN (i-k) (s.get! k).toNat (t.get! (k+1)).toNat (t.get! (k+2)).toNat (t.get! (k+3)).toNat:=by
   rw[Lib.decode_at,AG,hg k Z8]
  have ek:128<=(s.get! k).toNat:=by
   rcases Nat.lt_or_ge (s.get! k).toNat 128 with h|h
   ·exfalso
    have h1:(Utf8.decode t k).2=1:=by
     rw[hd];unfold Lib.decodeN;rw[if_pos h]
    have:k=i-1:=by omega
    rw[this]at h;omega
   ·exact h
  refine⟨by rw[hd];exact Vp ek,by omega,?_⟩;rw[show i-(Utf8.decode t k).2=k by omega,Lib.decode_at s k];have hw:(Lib.decodeN (i-k) (s.get! k).toNat (t.get! (k+1)).toNat (t.get! (k+2)).toNat (t.get! (k+3)).toNat).2=i-k:=by rw[<-hd];omega
  rw[B9 ek hw (by omega) (fun h=>by rw[hg (k+1) (by omega)]) (fun h=>by rw[hg (k+2) (by omega)]) (fun h=>by rw[hg (k+3) (by omega)]) (fun h=>by
   by_cases h2:i<s.size
   ·right;have:=qx h2;rw[show k+1=i by omega,uA s i h2];omega
   ·left;omega)]
  omega
 ·rw[if_neg he];exact⟨by show 128<=Utf8.runeError;decide,by show 1<=i;omega,by show(Utf8.decode s (i-1)).2=1;exact KZ⟩
def Fh (l:Bs) (i:Nat):Nat:=((l.take i).reverse.dropWhile spQ).length
theorem Ki {l:Bs} {i:Nat} {b:UInt8} (h:l[i]? =some b):Fh l (i+1)=if spQ b then Fh l i else i+1:=by
 obtain⟨hi,he⟩:=List.getElem?_eq_some_iff.1 h;unfold Fh;rw[List.take_succ_eq_append_getElem hi,he,List.reverse_append,List.reverse_singleton,List.singleton_append,List.dropWhile_cons];split
 ·rfl
 ·simp;omega
theorem A6 (s:ByteArray):∀f i,i<=f->i<=s.size->(∀j,i<=j->∀h:j<s.size,(s[j]'h).toNat<=32)->
  (if 0<=Lib.lastIdxFuncFrom pSp false s f i then(Lib.lastIdxFuncFrom pSp false s f i).toNat+(Utf8.decode s (Lib.lastIdxFuncFrom pSp false s f i).toNat).2 else 0)=Fh s.data.toList i
 | 0,i,hf,hi,_=>by
   obtain rfl:i=0:=by omega
   rfl
 | f+1,i,hf,hi,ht=>by
   cases i with
   | zero=>rw[Lib.lastIdxFuncFrom];rfl
   | succ m=>
     have hm:m<s.size:=by omega
     have cw:Lib.lastIdxFuncFrom pSp false s (f+1) (m+1)=if pSp (Lib.decodeLastL (s.data.toList.take (m+1))).1=false then(((m+1)-(Lib.decodeLastL (s.data.toList.take (m+1))).2:Nat):Int)else Lib.lastIdxFuncFrom pSp false s f ((m+1)-(Lib.decodeLastL (s.data.toList.take (m+1))).2):=by
      rw[Lib.lastIdxFuncFrom,if_pos (Nat.succ_pos m)]
     rw[cw]
     have wS:s.data.toList[m]? =some (s[m]'hm):=by
      rw[List.getElem?_eq_getElem (show m<s.data.toList.length from hm)];rfl
     rw[Ki wS];rcases Nat.lt_or_ge (s[m]'hm).toNat 128 with h1|h1
     ·have hd:Lib.decodeLastL (s.data.toList.take (m+1))=((s[m]'hm).toNat,1):=by
       obtain⟨RL,hme⟩:=List.getElem?_eq_some_iff.1 wS;rw[List.take_succ_eq_append_getElem RL,hme];exact Lib.decodeLastL_ascii _ _ h1
      rw[hd,uU];cases hq:spQ (s[m]'hm)with
      | false=>
        simp only[if_true,Bool.false_eq_true,if_false];rw[show m+1-1=m by omega,if_pos (by omega),show((m:Int)).toNat=m from rfl,decode_ascii s m hm h1]
      | true=>
        simp only[Bool.true_eq_false,if_false,if_true];rw[show m+1-1=m by omega];refine A6 s f m (by omega) (by omega) fun j hj jR=>?_;rcases Nat.eq_or_lt_of_le hj with e|e
        ·subst e;have:spQ (s[m]'hm)=true:=hq;unfold spQ at this;have h2:=of_decide_eq_true this;exact h2
        ·exact ht j e jR
     ·obtain⟨xd,It,hd3⟩:=NU s (m+1) (by omega) hi (by simpa using h1) (fun h=>ht (m+1) (Nat.le_refl _) h);rw[Eg xd,EG h1];simp only[if_true,Bool.false_eq_true,if_false];rw[if_pos (by omega),Int.toNat_natCast,hd3];omega
theorem Gw (s:ByteArray):∀f i,i<=s.size->Lib.lastIdxFuncFrom pSp false s f i<0\/Lib.lastIdxFuncFrom pSp false s f i<s.size
 | 0,_,_=>.inl (by rw[Lib.lastIdxFuncFrom];omega)
 | f+1,i,hi=>by
   rw[Lib.lastIdxFuncFrom];by_cases h:0<i
   ·rw[if_pos h];have hw:=(Lib.decodeLastL_width (s.data.toList.take i) (by rw[List.length_take];show 0<min i s.size;omega)).1;split
    ·right;omega
    ·exact Gw s f _ (by omega)
   ·rw[if_neg h];left;omega
theorem zc (s:ByteArray):(Lib.trimRightF pSp s).data.toList=(s.data.toList.reverse.dropWhile spQ).reverse:=by
 have h:=A6 s s.size s.size (Nat.le_refl _) (Nat.le_refl _) (fun j hj jR=>by omega)
 have qx:Lib.rightEndF pSp s=Fh s.data.toList s.size:=by
  rw[<-h];unfold Lib.rightEndF Lib.lastIdxFunc;split
  ·rename_i h0;have aN:=Gw s s.size s.size (Nat.le_refl _);congr 1;unfold Lib.decodeGoB;by_cases hz:(s.extract (Lib.lastIdxFuncFrom pSp false s s.size s.size).toNat s.size).size=0
   ·exfalso
    rw[ByteArray.size_extract]at hz;omega
   ·rw[if_neg hz,Lib.tail_decode];rfl
  ·rfl
 unfold Lib.trimRightF;rw[qx,Lib.extract_data];show(s.data.toList.drop 0).take (Fh s.data.toList s.size-0)=_;unfold Fh;rw[show s.data.toList.take s.size=s.data.toList from List.take_of_length_le (Nat.le_refl _),List.drop_zero,Nat.sub_zero]
 have hp:(s.data.toList.reverse.dropWhile spQ).reverse<+:s.data.toList:=by
  have:=(List.dropWhile_suffix spQ (l:=s.data.toList.reverse)).reverse
  rwa [List.reverse_reverse]at this
 have:=List.prefix_iff_eq_take.1 hp;rw[List.length_reverse]at this;exact this.symm
theorem QI (s:ByteArray):(Lib.trimF pSp s).data.toList=((s.data.toList.dropWhile spQ).reverse.dropWhile spQ).reverse:=by
 unfold Lib.trimF;rw[zc,Cl]
end Lz
namespace Go.Proofs.YtlcbhacofagedaaGreatDoor
open Go.RowKit
theorem lB (s:ByteArray) (k:List UInt8):(s.toList==k)=decide (s.data.toList=k):=by
 rw[Lib.toList_data,Bool.eq_iff_iff];simp
theorem aH {s:ByteArray} {k:List UInt8} (h:s.data.toList=k):(s.toList==k)=true:=(lB s k).trans (decide_eq_true h)
theorem aR {s:ByteArray} {k:List UInt8} (h:¬s.data.toList=k):(s.toList==k)=false:=(lB s k).trans (decide_eq_false h)
theorem eN (s:ByteArray) (w:World):Calls Tryz.prog 68 #[.string s] w fun e w'=>e=.returned (.int .i64 (Lz.dr s.data.toList))/\w=w':=by
 by_cases h0:s.data.toList=[104,116,116,112]
 ·have g0:=aH h0;have HV:Hid (Lz.dr s.data.toList=80):=by show _=_;rw[h0];rfl
  clear h0;go_enter Tryz.func68,Tryz.ntmps68
  go_wp2_with fail
  go_ret;rw[HV.out];exact⟨rfl,rfl⟩
 ·have g0:=aR h0;by_cases h1:s.data.toList=[119,115]
  ·have g1:=aH h1;have HV:Hid (Lz.dr s.data.toList=80):=by show _=_;rw[h1];rfl
   clear h0 h1;go_enter Tryz.func68,Tryz.ntmps68
   go_wp2_with fail
   go_ret;rw[HV.out];exact⟨rfl,rfl⟩
  ·have g1:=aR h1;by_cases h2:s.data.toList=[104,116,116,112,115]
   ·have g2:=aH h2;have HV:Hid (Lz.dr s.data.toList=443):=by show _=_;rw[h2];rfl
    clear h0 h1 h2;go_enter Tryz.func68,Tryz.ntmps68
    go_wp2_with fail
    go_ret;rw[HV.out];exact⟨rfl,rfl⟩
   ·have g2:=aR h2;by_cases h3:s.data.toList=[119,115,115]
    ·have g3:=aH h3;have HV:Hid (Lz.dr s.data.toList=443):=by show _=_;rw[h3];rfl
     clear h0 h1 h2 h3;go_enter Tryz.func68,Tryz.ntmps68
     go_wp2_with fail
     go_ret;rw[HV.out];exact⟨rfl,rfl⟩
    ·have g3:=aR h3;by_cases h4:s.data.toList=[102,116,112]
     ·have g4:=aH h4;have HV:Hid (Lz.dr s.data.toList=21):=by show _=_;rw[h4];rfl
      clear h0 h1 h2 h3 h4;go_enter Tryz.func68,Tryz.ntmps68
      go_wp2_with fail
      go_ret;rw[HV.out];exact⟨rfl,rfl⟩
     ·have g4:=aR h4
      have HV:Hid (Lz.dr s.data.toList= -1):=by
       show _=_;unfold Lz.dr;rw[if_neg (fun h=>h.elim h0 h1),if_neg (fun h=>h.elim h2 h3),if_neg (show ¬s.data.toList=Lz.Ue from h4)]
      clear h0 h1 h2 h3 h4;go_enter Tryz.func68,Tryz.ntmps68
      go_wp2_with fail
      go_ret;rw[HV.out];exact⟨rfl,rfl⟩
theorem Bp (s:ByteArray) (w:World):Calls Tryz.prog 171 #[.string s] w fun e w'=>e=.returned (.bool (Lz.ae s.data.toList))/\w=w':=by
 by_cases h0:s.data.toList=[102,105,108,101]
 ·have g0:=aH h0;have HV:Hid (Lz.ae s.data.toList=true):=by show _=_;rw[h0];rfl
  clear h0;go_enter Tryz.func171,Tryz.ntmps171
  go_wp2_with fail
  go_ret;rw[HV.out];exact⟨rfl,rfl⟩
 ·have g0:=aR h0;have cD:=eN s w;obtain⟨d,hd⟩:∃d,d=Lz.dr s.data.toList:=⟨_,rfl⟩
  have HV:Hid (Lz.ae s.data.toList= !(d== -1)):=by
   show _=_;unfold Lz.ae;have:(s.data.toList==Lz.fileS)=false:=by rw[beq_eq_false_iff_ne];exact h0
   rw[this,Bool.false_or,hd]
  rw[<-hd]at cD;have CD:=Ih cD;have dG:(d != -1)= !(d== -1):=rfl;clear h0 cD hd;go_enter Tryz.func171,Tryz.ntmps171
  go_wp2_with fail
  refine CD.out.mono ?_;rintro e w1 ⟨rfl,rfl⟩
  go_wp2_with fail
  go_ret;rw[HV.out];exact⟨by first |rfl|rw[dG],rfl⟩
def l3:Option Nat->Int
 | some n=>n
 | none=> -1
theorem jx (a b:UInt8):((a.toNat:Int)==(b.toNat:Int))=(a==b):=jO a b
theorem L6 {s:ByteArray} (h:s.size=2):s.data.toList=[s[0],s[1]]:=by
 have h0:=aw (s:=s) (n:=0) (by omega);have h1:=aw (s:=s) (n:=1) (by omega);have hl:s.data.toList.length=2:=h;generalize s.data.toList=l at h0 h1 hl
 match l,hl with
 | [a,b],_=>
   have e0:a=s[0]:=by simpa using h0
   have e1:b=s[1]:=by simpa using h1
   rw[e0,e1]
theorem rx (s:ByteArray) (w:World):Calls Tryz.prog 175 #[.string s] w fun e w'=>e=.returned (.bool (Lz.bu s.data.toList))/\w=w':=by
 by_cases h2:s.size=2
 ·have RM:((s.size:Int)==2)=true:=by simp;omega
  have Z3:0<s.size:=by omega
  have XH:1<s.size:=by omega
  have abo:(0:Int)<(s.size:Int):=by omega
  have V8:(1:Int)<(s.size:Int):=by omega
  have hl:=L6 h2;obtain⟨a,ha⟩:∃a,a=s[0]:=⟨_,rfl⟩;obtain⟨b,hb⟩:∃b,b=s[1]:=⟨_,rfl⟩;have WA:(s[0].toNat:Int)=(a.toNat:Int):=by rw[ha]
  have hbI:(s[1].toNat:Int)=(b.toNat:Int):=by rw[hb]
  rw[<-ha,<-hb]at hl;have HV:Hid (Lz.bu s.data.toList=(Lz.aW a&&(b==58||b==124))):=by show _=_;rw[hl];rfl
  have cA:=kz a w;have b1:((b.toNat:Int)==58)=(b==58):=jx b 58;have b2:((b.toNat:Int)==124)=(b==124):=jx b 124;generalize Lz.aW a=p at cA HV;generalize (b==58)=q at b1 HV;generalize (b==124)=r at b2 HV;have CA:=Ih cA;have H2:=Ih h2;clear hl ha hb cA h2;cases p
  ·go_enter Tryz.func175,Tryz.ntmps175
   go_wp2_with fail
   refine CA.out.mono ?_;rintro e w1 ⟨rfl,rfl⟩
   go_wp2_with fail
   go_ret;rw[HV.out];exact⟨rfl,rfl⟩
  ·cases q
   ·go_enter Tryz.func175,Tryz.ntmps175
    go_wp2_with fail
    refine CA.out.mono ?_;rintro e w1 ⟨rfl,rfl⟩
    go_wp2_with fail
    go_ret;rw[HV.out];exact⟨by cases r<;>first |rfl|(rw[b2];rfl),rfl⟩
   ·go_enter Tryz.func175,Tryz.ntmps175
    go_wp2_with fail
    refine CA.out.mono ?_;rintro e w1 ⟨rfl,rfl⟩
    go_wp2_with fail
    go_ret;rw[HV.out];exact⟨rfl,rfl⟩
 ·have RM:((s.size:Int)==2)=false:=by simp;omega
  have HV:Hid (Lz.bu s.data.toList=false):=by
   show _=_;have hl:s.data.toList.length≠2:=h2;generalize s.data.toList=l at hl
   match l,hl with
   | [],_=>rfl
   | [_],_=>rfl
   | [_,_],hl=>exact absurd rfl hl
   | _::_::_::_,_=>rfl
  go_enter Tryz.func175,Tryz.ntmps175
  go_wp2_with fail
  go_ret;rw[HV.out];exact⟨rfl,rfl⟩
theorem Jq (s:ByteArray) (hs:s.size<=1048576) (w:World):Calls Tryz.prog 221 #[.string s] w fun e w'=>e=.returned (.int .i64 (l3 (Lz.cW false s.data.toList)))/\w=w':=by
 obtain⟨o,ho⟩:∃o,o=Lz.cW false s.data.toList:=⟨_,rfl⟩;have Ho:=Ih ho;rw[<-ho];clear ho;go_enter Tryz.func221,Tryz.ntmps221
 go_wp2_with fail
 go_loopw [3,7] (fun i k wr=>∃(b:Bool) (j:Nat),i=.bool b/\k=.int .i64 j/\j<=s.size/\Hid (o=(Lz.cW b (s.data.toList.drop j)).map (·+j))/\w=wr) (fun _ k _=>s.size-(intOf k).toNat)
 case atStart=>exact⟨false,0,rfl,rfl,Nat.zero_le _,by show _=_;rw[Ho.out,List.drop_zero];simp,rfl⟩
 case round=>
  obtain⟨b,j,rfl,rfl,hj,hO,rfl⟩:=hrel;by_cases aN:j<s.size
  ·have dH:(j:Int)<(s.size:Int):=by omega
   have Aj:(0:Int)<=(j:Int):=by omega
   obtain⟨c,hc⟩:∃c,c=s[j]:=⟨_,rfl⟩;have yI:(s[j].toNat:Int)=(c.toNat:Int):=by rw[hc]
   have hst:Hid (o=(if c==91 then(Lz.cW true (s.data.toList.drop (j+1))).map (·+1)else if c==93 then(Lz.cW false (s.data.toList.drop (j+1))).map (·+1)else if c==58&& !b then some 0 else(Lz.cW b (s.data.toList.drop (j+1))).map (·+1)).map (·+j)):=by
    show _=_;rw[hO.out,List.drop_eq_getElem_cons (show j<s.data.toList.length from aN),Lz.cW,hc];rfl
   have hmm:∀x:Option Nat,(x.map (·+1)).map (·+j)=x.map (·+(j+1)):=by
    intro x;cases x with
    | none=>rfl
    | some n=>simp;omega
   have b1:((c.toNat:Int)==91)=(c==91):=jx c 91;have b2:((c.toNat:Int)==93)=(c==93):=jx c 93;have b3:((c.toNat:Int)==58)=(c==58):=jx c 58;generalize (c==91)=q1 at b1 hst;generalize (c==93)=q2 at b2 hst;generalize (c==58)=q3 at b3 hst;have Hmm:=Ih hmm;clear hc hO hmm;cases q1
   ·cases q2
    ·cases q3
     ·have HN:Hid (o=(Lz.cW b (s.data.toList.drop (j+1))).map (·+(j+1))):=by show _=_;rw[hst.out,<-Hmm.out];rfl
      go_wp2_with fail
      go_roundw
      case rel=>exact⟨b,j+1,rfl,by go_num,by omega,HN,trivial⟩
      case measure=>simp[intOf];omega
     ·cases b
      ·have HN:Hid (o=some j):=by show _=_;rw[hst.out];simp
       go_wp2_with fail
       go_ret;rw[HN.out];exact⟨rfl,rfl⟩
      ·have HN:Hid (o=(Lz.cW true (s.data.toList.drop (j+1))).map (·+(j+1))):=by show _=_;rw[hst.out,<-Hmm.out];rfl
       go_wp2_with fail
       go_roundw
       case rel=>exact⟨true,j+1,rfl,by go_num,by omega,HN,trivial⟩
       case measure=>simp[intOf];omega
    ·have HN:Hid (o=(Lz.cW false (s.data.toList.drop (j+1))).map (·+(j+1))):=by show _=_;rw[hst.out,<-Hmm.out];rfl
     go_wp2_with fail
     go_roundw
     case rel=>exact⟨false,j+1,rfl,by go_num,by omega,HN,trivial⟩
     case measure=>simp[intOf];omega
   ·have HN:Hid (o=(Lz.cW true (s.data.toList.drop (j+1))).map (·+(j+1))):=by show _=_;rw[hst.out,<-Hmm.out];rfl
    go_wp2_with fail
    go_roundw
    case rel=>exact⟨true,j+1,rfl,by go_num,by omega,HN,trivial⟩
    case measure=>simp[intOf];omega
  ·have dH:¬(j:Int)<(s.size:Int):=by omega
   have HN:Hid (o=none):=by
    show _=_;rw[hO.out,List.drop_eq_nil_of_le (show s.data.toList.length<=j by rw[aa];omega)];rfl
   go_wp2_with fail
   go_ret;rw[HN.out];exact⟨rfl,rfl⟩
theorem dC (s:ByteArray) (k:Nat):(s.extract 0 k).data.toList=s.data.toList.take k:=by
 rw[Lib.extract_data];rfl
def dy (w:World) (v:Value) (l:List (List UInt8)):Prop:=
 ∃(a:Option Addr) (c:Nat) (xs:List ByteArray),v=.slice a xs.length c/\xs.map (fun x:ByteArray=>x.data.toList)=l/\∀(j:Nat) (x:ByteArray),xs[j]? =some x->∃B off,a=some ⟨B,off,none⟩/\B<w.heap.size/\w.cell? ⟨B,off+j,none⟩=some (.string x)
theorem dy.below {w w':World} {v:Value} {l:List (List UInt8)} (h:dy w v l) (hb:Below w.heap.size w w'):dy w' v l:=by
 obtain⟨a,c,xs,h1,h2,h3⟩:=h;refine⟨a,c,xs,h1,h2,fun j x hj=>?_⟩;obtain⟨B,off,e1,e2,e3⟩:=h3 j x hj;exact⟨B,off,e1,Nat.lt_of_lt_of_le e2 hb.size,by rw[hb.cell (p:=⟨B,off+j,none⟩) e2];exact e3⟩
theorem oR {l:List UInt8} (h:Lz.bu l=true):l.length=2:=by
 match l,h with
 | [_,_],_=>rfl
theorem FG (v:Value) (l:List (List UInt8)) (w:World) (h:dy w v l):Calls Tryz.prog 178 #[v] w fun e w'=>e=.returned (.bool (Lz.fL l))/\w=w':=by
 obtain⟨a,c,xs,rfl,rfl,hx⟩:=h;cases xs with
 | nil=>
   go_enter Tryz.func178,Tryz.ntmps178
   go_wp2_with fail
   go_ret;exact⟨rfl,rfl⟩
 | cons x r=>
   obtain⟨B,off,rfl,hB,hc⟩:=hx 0 x rfl;rw[Nat.add_zero]at hc;have Tr:(0:Int)<((x::r).length:Int):=by rw[List.length_cons];omega
   have VP:(0:Int)<(r.length:Int)+1:=by omega
   have cD:=rx x w;have HV:Hid (Lz.fL ((x::r).map fun x:ByteArray=>x.data.toList)=(Lz.bu x.data.toList&&(x.data.toList[1]? ==some 58))):=rfl;cases hq:Lz.bu x.data.toList with
   | false=>
     rw[hq]at cD;have sZ:Hid (Lz.fL ((x::r).map fun x:ByteArray=>x.data.toList)=false):=by show _=_;rw[HV.out,hq];rfl
     have CD:=Ih cD;clear cD hq hx;go_enter Tryz.func178,Tryz.ntmps178
     go_wp2_with fail
     refine CD.out.mono ?_;rintro e w1 ⟨rfl,rfl⟩
     go_wp2_with fail
     go_ret;rw[sZ.out];exact⟨rfl,rfl⟩
   | true=>
     rw[hq]at cD;have hz:x.size=2:=oR hq;have XH:1<x.size:=by omega
     have V8:(1:Int)<(x.size:Int):=by omega
     obtain⟨d,hd⟩:∃d,d=x[1]:=⟨_,rfl⟩;have Xl:(x[1].toNat:Int)=(d.toNat:Int):=by rw[hd]
     have b1:((d.toNat:Int)==58)=(d==58):=jx d 58
     have sZ:Hid (Lz.fL ((x::r).map fun x:ByteArray=>x.data.toList)=(d==58)):=by
      show _=_;rw[HV.out,hq,aw XH,<-hd];rfl
     have CD:=Ih cD;have Hz:=Ih hz;clear cD hq hx hd hz;go_enter Tryz.func178,Tryz.ntmps178
     go_wp2_with fail
     refine CD.out.mono ?_;rintro e w1 ⟨rfl,rfl⟩
     go_wp2_with fail
     go_ret;rw[sZ.out];exact⟨by first |rfl|rw[b1]|(rw[<-b1];rfl),rfl⟩
theorem eW {B M:Nat} {w:World} {x:MkV} {sp:Bool} {sl:ByteArray} (h:mw B M w x sp sl) (k:Nat) (v:Value) (x':MkV) (sp':Bool) (sl':ByteArray)
  (hc:(#[.string x.sch,.string x.usr,.string x.pas,.bool x.hh,.string x.hst,.int .i64 x.prt,.bool x.opq,x.pv,.bool x.hq,.bool x.hf,.string x.qry,.string x.frg,.bool sp,.string sl]:Array Value).setIfInBounds k v= #[.string x'.sch,.string x'.usr,.string x'.pas,.bool x'.hh,.string x'.hst,.int .i64 x'.prt,.bool x'.opq,x'.pv,.bool x'.hq,.bool x'.hf,.string x'.qry,.string x'.frg,.bool sp',.string sl'])
  (ho:∀w',aX w' B x.pv x.xs->(aX w' B x'.pv x'.xs)):mw B M (w.setCell ⟨M,k,none⟩ v) x' sp' sl':=
 ⟨gF h.row k v hc,ho _ (h.own.setCell h.row pF k v),h.le⟩
theorem Vv (B M:Nat) (x:MkV) (sp:Bool) (sl s:ByteArray) (w:World) (hm:mw B M w x sp sl):
  Calls Tryz.prog 128 #[.pointer (some ⟨M,0,none⟩),.string s] w fun e w'=>e=.returned (.tuple #[])/\Below B w w'/\mw B M w' {x with sch:=s} (Lz.ae s.data.toList) (cm (Lz.ae s.data.toList)):=by
 obtain⟨sch,usr,pas,hh,hst,prt,opq,pv,xs,hq,hf,qry,frg⟩:=x;have ow:=hm.le;have cS:=Ih (fun W=>Bp s W);obtain⟨q,hq'⟩:∃q,q=Lz.ae s.data.toList:=⟨_,rfl⟩;rw[<-hq']at cS⊢;clear hq';have m1:=eW hm 0 (.string s) {sch:=s,usr:=usr,pas:=pas,hh:=hh,hst:=hst,prt:=prt,opq:=opq,pv:=pv,xs:=xs,hq:=hq,hf:=hf,qry:=qry,frg:=frg} sp sl (by simp) (fun _ h=>h);have m2:=eW m1 12 (.bool q) {sch:=s,usr:=usr,pas:=pas,hh:=hh,hst:=hst,prt:=prt,opq:=opq,pv:=pv,xs:=xs,hq:=hq,hf:=hf,qry:=qry,frg:=frg} q sl (by simp) (fun _ h=>h);have m3:=eW m2 13 (.string ⟨#[47]⟩) {sch:=s,usr:=usr,pas:=pas,hh:=hh,hst:=hst,prt:=prt,opq:=opq,pv:=pv,xs:=xs,hq:=hq,hf:=hf,qry:=qry,frg:=frg} q ⟨#[47]⟩ (by simp) (fun _ h=>h);have m4:=eW m3 13 (.string ⟨#[47,92]⟩) {sch:=s,usr:=usr,pas:=pas,hh:=hh,hst:=hst,prt:=prt,opq:=opq,pv:=pv,xs:=xs,hq:=hq,hf:=hf,qry:=qry,frg:=frg} q ⟨#[47,92]⟩ (by simp) (fun _ h=>h);have b3:Below B w (((w.setCell ⟨M,0,none⟩ (.string s)).setCell ⟨M,12,none⟩ (.bool q)).setCell ⟨M,13,none⟩ (.string ⟨#[47]⟩)):=(((Below.refl B w).setCell (p:=⟨M,0,none⟩) ow _).setCell (p:=⟨M,12,none⟩) ow _).setCell (p:=⟨M,13,none⟩) ow _;have b4:=b3.setCell (p:=⟨M,13,none⟩) ow (.string ⟨#[47,92]⟩)
 have c0:=rowAt hm.row 0 (.string sch) rfl;have f0:=bP hm.row 0;have c12:=rowAt hm.row 12 (.bool sp) rfl;have f12:=bP hm.row 12;have c13:=rowAt hm.row 13 (.string sl) rfl;have f13:=bP hm.row 13;have e12:=rowAt m3.row 12 (.bool q) rfl;have M3:=Ih m3;have M4:=Ih m4;have B3:=Ih b3;have B4:=Ih b4;clear m1 m2 m3 m4 b3 b4 hm;cases q
 ·go_enter Tryz.func128,Tryz.ntmps128
  go_wp2_with fail
  refine(cS.out _).mono ?_;rintro e w1 ⟨rfl,rfl⟩
  go_wp2_with fail
  go_end0
  exact⟨rfl,B3.out,M3.out⟩
 ·go_enter Tryz.func128,Tryz.ntmps128
  go_wp2_with fail
  refine(cS.out _).mono ?_;rintro e w1 ⟨rfl,rfl⟩
  go_wp2_with fail
  go_end0
  exact⟨rfl,B4.out,M4.out⟩
theorem tW (s:List UInt8):Lz.bJ s []=[]:=by unfold Lz.bJ;split<;>rfl
theorem rQ {s:List UInt8} {l:List (List UInt8)} (h:¬(s=Lz.fileS/\l.length=1/\Lz.fL l=true)):Lz.bJ s l=l.dropLast:=by unfold Lz.bJ;rw[if_neg h]
theorem ES {B M:Nat} {w:World} {sch usr pas:ByteArray} {hh:Bool} {hst:ByteArray} {prt:Int} {opq:Bool} {a:Option Addr} {k c:Nat} {xs:List ByteArray} {hq hf:Bool} {qry frg:ByteArray} {sp:Bool} {sl:ByteArray}
  (hm:mw B M w ⟨sch,usr,pas,hh,hst,prt,opq,.slice a (k+1) c,xs,hq,hf,qry,frg⟩ sp sl) (hn:xs.length=k+1):
  Below B w (w.setCell ⟨M,7,none⟩ (.slice a k k))/\mw B M (w.setCell ⟨M,7,none⟩ (.slice a k k)) ⟨sch,usr,pas,hh,hst,prt,opq,.slice a k k,xs.dropLast,hq,hf,qry,frg⟩ sp sl:=
 ⟨(Below.refl B w).setCell (p:=⟨M,7,none⟩) hm.le _,eW hm 7 (.slice a k k) ⟨sch,usr,pas,hh,hst,prt,opq,.slice a k k,xs.dropLast,hq,hf,qry,frg⟩ sp sl (by simp) (fun _ h=>h.pop (by show 1<=xs.length;omega))⟩
theorem map_dropLast (xs:List ByteArray):xs.dropLast.map (fun x:ByteArray=>x.data.toList)=(xs.map (fun x:ByteArray=>x.data.toList)).dropLast:=by rw[List.map_dropLast]
theorem Bu (B M:Nat) (u:Lz.af) (w:World) (hm:ee B M w u) (hl:u.path.length<=1000000000):
  Calls Tryz.prog 173 #[.pointer (some ⟨M,0,none⟩)] w (RMk B M {u with path:=Lz.bJ u.scheme u.path} w):=by
 obtain⟨sch,usr,pas,hh,hst,prt,opq,a,c,xs,hq,hf,qry,frg,hk,rfl,hc,aO⟩:=hm.form;have wV:=hm;have KM:xs.length<=1000000000:=by simpa using hl
 have c7:=rowAt hk.row 7 (.slice a xs.length c) rfl;have c0:=rowAt hk.row 0 (.string sch) rfl;have f7:=bP hk.row 7;have Xe:dy w (.slice a xs.length c) (xs.map (fun x:ByteArray=>x.data.toList)):=⟨a,c,xs,rfl,rfl,aO⟩;have cR:=FG _ _ w Xe;obtain⟨n,hn⟩:∃n,n=xs.length:=⟨_,rfl⟩;rw[<-hn]at c7 cR hc KM hk;clear aO hl Xe;cases n with
 | zero=>
   have hx:xs=[]:=List.length_eq_zero_iff.1 hn.symm;subst hx
   have HF:Hid (ee B M w ⟨sch.data.toList,usr.data.toList,pas.data.toList,hh,hst.data.toList,prt,opq,Lz.bJ sch.data.toList [],hq,hf,qry.data.toList,frg.data.toList⟩):=by
    rw[tW];exact wV
   clear hm wV hk cR hn;go_enter Tryz.func173,Tryz.ntmps173
   go_wp2_with fail
   go_end0
   exact⟨rfl,Below.refl _ _,HF.out⟩
 | succ k=>
   have iN:(0:Int)<(((k+1:Nat)):Int):=by omega
   have Gr:=ES hk hn.symm
   have HD:Hid ((¬(sch.data.toList=Lz.fileS/\k=0/\Lz.fL (xs.map (fun x:ByteArray=>x.data.toList))=true))->RMk B M ⟨sch.data.toList,usr.data.toList,pas.data.toList,hh,hst.data.toList,prt,opq,Lz.bJ sch.data.toList (xs.map (fun x:ByteArray=>x.data.toList)),hq,hf,qry.data.toList,frg.data.toList⟩ w (.returned (.tuple #[])) (w.setCell ⟨M,7,none⟩ (.slice a k k))):=by
    intro ic;refine⟨rfl,Gr.1,_,Gr.2,Ih ?_⟩;rw[rQ (by rw[List.length_map,<-hn];intro h;exact ic ⟨h.1,by omega,h.2.2⟩),<-map_dropLast];rfl
   have Pm:((k+1:Nat):Int)-1=(k:Int):=by omega
   have Sy:k<=1000000000:=by omega
   have hkc:k<=c:=by omega
   by_cases jm:sch.data.toList=Lz.fileS
   ·have g0:=aH (k:=[102,105,108,101]) jm;by_cases kq:k=0
    ·subst kq;cases hr:Lz.fL (xs.map (fun x:ByteArray=>x.data.toList))with
     | true=>
       have HF:Hid (ee B M w ⟨sch.data.toList,usr.data.toList,pas.data.toList,hh,hst.data.toList,prt,opq,Lz.bJ sch.data.toList (xs.map (fun x:ByteArray=>x.data.toList)),hq,hf,qry.data.toList,frg.data.toList⟩):=by
        have:Lz.bJ sch.data.toList (xs.map (fun x:ByteArray=>x.data.toList))=xs.map (fun x:ByteArray=>x.data.toList):=by unfold Lz.bJ;rw[if_pos ⟨jm,by rw[List.length_map,<-hn],hr⟩]
        rw[this];exact wV
       rw[hr]at cR;have CR:=Ih cR;clear hm wV hk cR hn Gr hr jm;go_enter Tryz.func173,Tryz.ntmps173
       go_wp2_with fail
       refine CR.out.mono ?_;rintro e w1 ⟨rfl,rfl⟩
       go_wp2_with fail
       go_end0
       exact⟨rfl,Below.refl _ _,HF.out⟩
     | false=>
       rw[hr]at cR;have HE:=Ih (HD.out (fun h=>by rw[hr]at h;exact absurd h.2.2 (by simp)));have CR:=Ih cR;clear hm wV hk cR hn Gr hr jm;go_enter Tryz.func173,Tryz.ntmps173
       go_wp2_with fail
       refine CR.out.mono ?_;rintro e w1 ⟨rfl,rfl⟩
       go_wp2_with fail
       go_end0
       exact HE.out
    ·have Sm:(1:Int)<(((k+1:Nat)):Int):=by omega
     have Xh:(1:Int)<(k:Int)+1:=by omega
     have HE:=Ih (HD.out (fun h=>kq h.2.1));clear hm wV hk cR hn Gr jm;go_enter Tryz.func173,Tryz.ntmps173
     go_wp2_with fail
     go_end0
     exact HE.out
   ·have g0:=aR (k:=[102,105,108,101]) jm;have HE:=Ih (HD.out (fun h=>jm h.1));clear hm wV hk cR hn Gr jm;go_enter Tryz.func173,Tryz.ntmps173
    go_wp2_with fail
    go_end0
    exact HE.out
theorem de.at {B:Nat} {w w':World} (h:de w) (hb:Below B w w') (hB:11<=B):de w':=by
 have hz:=h.size;have hc:∀b o,b<11->w'.cell? ⟨b,o,none⟩=w.cell? ⟨b,o,none⟩:=fun b o aN=>hb.cell (p:=⟨b,o,none⟩) (by show b<_;omega);obtain⟨h1,h2,h3,h4,h5,h6,h7,h8⟩:=h;refine⟨?_,?_,?_,?_,?_,?_,?_,Nat.le_trans hz hb.size⟩
 ·obtain⟨m,hm⟩:=h1;exact⟨m,by rw[hc _ _ (by decide)];exact hm⟩
 ·exact var?_below hb Qd (by have:4<11:=(by decide);omega) h2
 ·obtain⟨a,b,hm⟩:=h3;exact⟨a,b,by rw[hc _ _ (by decide)];exact hm⟩
 ·obtain⟨a,b,hm⟩:=h4;exact⟨a,b,by rw[hc _ _ (by decide)];exact hm⟩
 ·rw[hc _ _ (by decide)];exact h5
 ·rw[hc _ _ (by decide)];exact h6
 ·rw[hc _ _ (by decide)];exact h7
theorem Mj (s:ByteArray) (hs:s.size<=1000000000) (w:World) (hE:de w):Calls Tryz.prog 186 #[.string s] w (wj (Lz.dN s.data.toList:Nat) w):=by
 have cL:=Ih (fun W=>j4 s (by omega) W);go_enter Tryz.func186,Tryz.ntmps186
 go_wp2_with fail
 refine(cL.out _).mono ?_;rintro e w1 ⟨u,rfl,hu,aC⟩;have jn:u.size=s.size:=by rw[<-aa,hu.out,gj,aa]
 obtain⟨m,hm⟩:=(hE.below aC).ml
 have cR:=Tryz.strings_ReplaceAll u ⟨#[37,50,101]⟩ ⟨#[46]⟩ m w1 (by omega) hm (by decide) (by
  have:=Lib.countB_le ⟨#[37,50,101]⟩ (by decide) u.size u (Nat.le_refl _);have h1:(⟨#[46]⟩:ByteArray).size=1:=rfl;rw[h1];omega)
 have Zt:Lib.replaceAll u.data.toList (⟨#[37,50,101]⟩:ByteArray).data.toList (⟨#[46]⟩:ByteArray).data.toList=Lz.unE (Lz.low s.data.toList):=by
  rw[hu.out];exact Lz.BP _
 rw[Zt]at cR;have CR:=Ih cR;obtain⟨r,hr⟩:∃r:ByteArray,r=⟨(Lz.unE (Lz.low s.data.toList)).toArray⟩:=⟨_,rfl⟩;have Tu:r.data.toList=Lz.unE (Lz.low s.data.toList):=by rw[hr]
 rw[<-hr]at CR;clear cR Zt hr hm;by_cases h1:r.data.toList=[46]
 ·have g1:=aH h1;have hz:r.size=1:=by rw[<-aa,h1];rfl
  have HV:Hid (Lz.dN s.data.toList=1):=by show _=_;unfold Lz.dN;rw[<-Tu,if_pos h1]
  clear Tu h1
  go_wp2_with fail
  refine CR.out.mono ?_;rintro e w2 ⟨rfl,aU⟩
  go_wp2_with fail
  go_ret;rw[HV.out];exact⟨by first |rfl|(rw[hz];rfl),ac aC aU⟩
 ·have g1:=aR h1;by_cases h2:r.data.toList=[46,46]
  ·have g2:=aH h2;have hz:r.size=2:=by rw[<-aa,h2];rfl
   have HV:Hid (Lz.dN s.data.toList=2):=by show _=_;unfold Lz.dN;rw[<-Tu,if_neg h1,if_pos h2]
   clear Tu h1 h2
   go_wp2_with fail
   refine CR.out.mono ?_;rintro e w2 ⟨rfl,aU⟩
   go_wp2_with fail
   go_ret;rw[HV.out];exact⟨by first |rfl|(rw[hz];rfl),ac aC aU⟩
  ·have g2:=aR h2;have HV:Hid (Lz.dN s.data.toList=0):=by show _=_;unfold Lz.dN;rw[<-Tu,if_neg h1,if_neg h2]
   clear Tu h1 h2
   go_wp2_with fail
   refine CR.out.mono ?_;rintro e w2 ⟨rfl,aU⟩
   go_wp2_with fail
   go_ret;rw[HV.out];exact⟨rfl,ac aC aU⟩
theorem nI {B M:Nat} {w w5:World} {x:MkV} {sp:Bool} {sl:ByteArray} {o:Obj} {row:Option Nat} (hm:mw B M w x sp sl) (hB:B<=w.heap.size) (hg:(w.alloc o).grownBy w5 row)
  (hr:xO B (w.alloc o) row):
  Below B w w5/\w5.heap[M]? =some (.cells #[.string x.sch,.string x.usr,.string x.pas,.bool x.hh,.string x.hst,.int .i64 x.prt,.bool x.opq,x.pv,.bool x.hq,.bool x.hf,.string x.qry,.string x.frg,.bool sp,.string sl] 82 (0,0)):=
 ⟨qk ((Below.refl B w).alloc hB o) hg (by simp;omega) hr,FI (by rw[Below.heap_alloc w o M (aI hm.row)];exact hm.row) hg hr⟩
theorem kt {B M:Nat} {w w5:World} {sch usr pas:ByteArray} {hh:Bool} {hst:ByteArray} {prt:Int} {opq:Bool} {pv:Value} {xs:List ByteArray} {hq hf:Bool} {qry frg:ByteArray} {sp:Bool} {sl:ByteArray} {v':Value} {p:ByteArray}
  (hb:Below B w w5) (hM:w5.heap[M]? =some (.cells #[.string sch,.string usr,.string pas,.bool hh,.string hst,.int .i64 prt,.bool opq,pv,.bool hq,.bool hf,.string qry,.string frg,.bool sp,.string sl] 82 (0,0)))
  (ow:B<=M) (aQ:aX w5 B v' (xs++[p])):
  Below B w (w5.setCell ⟨M,7,none⟩ v')/\mw B M (w5.setCell ⟨M,7,none⟩ v') ⟨sch,usr,pas,hh,hst,prt,opq,v',xs++[p],hq,hf,qry,frg⟩ sp sl:=
 ⟨hb.setCell (p:=⟨M,7,none⟩) ow _,⟨gF hM 7 v' (by simp),aQ.setCell hM pF 7 v',ow⟩⟩
end Go.Proofs.YtlcbhacofagedaaGreatDoor
namespace Lz
open Go
def ng (p:Int):Prop:=p= -1\/∃n:Nat,p=n/\n<=65535/\True
structure NV (u:af):Prop where
 port:ng u.port
 opaqueN:u.opq=true->True/\∃p,u.path=[p]/\True
theorem PT {u v:af} {s:Bs} (e:ck u s=.ok v) (hu:ng u.port):∃p,v={u with port:=p}/\ng p:=by
 unfold ck at e;cases hn:fY 0 s with
 | none=>rw[hn]at e;cases e
 | some n=>
   rw[hn]at e;simp only at e;split at e
   ·cases e
   ·injection e with e
    rw[<-e];split
    ·exact⟨n,rfl,.inr ⟨n,rfl,by omega,trivial⟩⟩
    ·exact⟨u.port,rfl,hu⟩
theorem CO {u v:af} {a:Bs} (e:dZ u a=.ok v) (hu:ng u.port):∃h p,v={u with host:=h,hasHost:=true,port:=p}/\ng p/\h.length<=3*a.length+110:=by
 have one:∀s t:Bs,s.length<=a.length->(bQ u s).bind (fun u=>ck u t)=.ok v->∃h p,v={u with host:=h,hasHost:=true,port:=p}/\ng p/\h.length<=3*a.length+110:=fun s t hs e=>by
  obtain⟨w,hw,e⟩:=th e;obtain⟨h,rfl,hh⟩:=uR hw;obtain⟨p,rfl,hp⟩:=PT e hu;have h1:=yn _ _ _ hh;exact⟨h,p,rfl,hp,by omega⟩
 unfold dZ at e;cases hc:cW false a with
 | some i=>
   rw[hc]at e;simp only at e;split at e
   ·cases e
   ·exact one _ _ (by rw[List.length_take];omega) e
 | none=>
   rw[hc]at e;simp only at e;split at e
   ·cases e
   ·exact one _ _ (Nat.le_refl _) e
theorem xD {u v:af} {r:Bs} (e:df u r=.ok v) (hu:G7 u):v.query=u.query/\v.fragment=u.fragment/\ng v.port/\v.opq=false/\wt v<=u.scheme.length+3*r.length+111:=by
 unfold df at e;obtain⟨w,hw,e⟩:=th e
 have hA:∃us pa h p,w={u with user:=us,pass:=pa,host:=h,hasHost:=true,port:=p}/\ng p/\us.length+pa.length+h.length<=3*(dn (ae u.scheme) r).1.length+110:=by
  generalize (dn (ae u.scheme) r).1=a at hw;unfold gB at hw;cases hl:cz a with
  | some xy=>
    obtain⟨x,y⟩:=xy;rw[hl]at hw;simp only at hw;split at hw
    ·cases hw
    ·obtain⟨h,p,rfl,hp,hz⟩:=CO hw (.inl hu.port);have bv:=oF hl;have c:=lk 58 x;have e1:=dD (bc 5) (Lib.cut x [58]).1;have e2:=dD (bc 5) (Lib.cut x [58]).2.1;exact⟨ah (bc 5) (Lib.cut x [58]).1,ah (bc 5) (Lib.cut x [58]).2.1,h,p,rfl,hp,by omega⟩
  | none=>
    rw[hl]at hw;obtain⟨h,p,rfl,hp,hz⟩:=CO hw (.inl hu.port);exact⟨u.user,u.pass,h,p,rfl,hp,by rw[hu.user,hu.pass];simp only[List.length_nil];omega⟩
 obtain⟨us,pa,h,p,rfl,hp,hz⟩:=hA;injection e with e
 have hc:=nc (ae u.scheme) r;have h0:pl u.path=0:=by rw[hu.path];rfl
 rw[<-e];split
 ·have h2:pl (onP {u with user:=us,pass:=pa,host:=h,hasHost:=true,port:=p} (dn (ae u.scheme) r).2.1).path<=pl u.path+3*(dn (ae u.scheme) r).2.1.length+1:=ze _ _;refine⟨rfl,rfl,hp,hu.opq,?_⟩;exact Nat.le_trans (Nat.add_le_add_left h2 (u.scheme.length+us.length+pa.length+h.length)) (by omega)
 ·refine⟨rfl,rfl,hp,hu.opq,?_⟩;show u.scheme.length+us.length+pa.length+h.length+pl u.path<=_;omega
theorem N2 {u v:af} {r:Bs} (e:da u none r=.ok v) (hu:G7 u):v.query=u.query/\v.fragment=u.fragment/\ng v.port/\v.opq=false/\wt v<=u.scheme.length+3*r.length+111:=by
 have mk:∀(h:Bs) (q:Bool) (n:Nat) (t:Bs),t.length+n<=r.length->h.length<=3*n+110->v=onP {u with hasHost:=q,host:=h} t->v.query=u.query/\v.fragment=u.fragment/\ng v.port/\v.opq=false/\wt v<=u.scheme.length+3*r.length+111:=fun h q n t ht hh hv=>by
  have h5:pl (onP {u with hasHost:=q,host:=h} t).path<=pl u.path+3*t.length+1:=ze _ t;have h0:pl u.path=0:=by rw[hu.path];rfl
  rw[hv];refine⟨rfl,rfl,.inl hu.port,hu.opq,?_⟩;exact Nat.le_trans (Nat.add_le_add_left h5 (u.scheme.length+u.user.length+u.pass.length+h.length)) (by rw[hu.user,hu.pass];simp only[List.length_nil];omega)
 have hd:∀n,(r.drop n).length<=r.length:=fun n=>by rw[List.length_drop];omega
 have hh0:u.host.length<=3*0+110:=by rw[hu.host];exact Nat.zero_le _
 have hc:=nc true (r.drop 2);have It:=hd 2;unfold da at e;simp only at e;split at e
 ·split at e
  ·injection e with e
   exact mk u.host true 0 _ (hd 2) hh0 e.symm
  ·obtain⟨w,hw,e⟩:=th e;injection e with e
   split at hw
   ·injection hw with hw
    rw[<-hw]at e;split at e
    ·exact mk [] true 0 _ (by omega) (Nat.zero_le _) e.symm
    ·exact mk u.host true 0 _ (by omega) hh0 e.symm
   ·obtain⟨h,rfl,hh⟩:=uR hw;have hl:=yn _ _ _ hh;split at e
    ·exact mk [] true 0 _ (by omega) (Nat.zero_le _) e.symm
    ·exact mk h true (dn true (r.drop 2)).1.length _ (by omega) hl e.symm
 ·split at e<;>(injection e with e;exact mk u.host true 0 _ (by first |exact hd 1|exact Nat.le_refl _) hh0 e.symm)
theorem Qb {u v:af} {s:Bs} (e:fN u s none=.ok v) (hu:G7 u):v.query=u.query/\v.fragment=u.fragment/\NV v/\wt v<=3*s.length+120:=by
 unfold fN at e;simp only at e;cases l6:(bp s).2.2 with
 | false=>rw[l6,if_neg (by decide)]at e;cases e
 | true=>
   have bv:=rY l6;rw[l6,if_pos rfl]at e;generalize (bp s).1=sch at e bv;generalize (bp s).2.1=r at e bv;have hF:G7 {u with scheme:=sch}:=⟨hu.user,hu.pass,hu.hasHost,hu.host,hu.port,hu.opq,hu.path⟩;have hz:u.user.length+u.pass.length+u.host.length+pl u.path=0:=by rw[hu.user,hu.pass,hu.host,hu.path];rfl
   have hd:∀n,(r.drop n).length<=r.length:=fun n=>by rw[List.length_drop];omega
   have out:∀t:Bs,t.length<=r.length->(v.query=u.query/\v.fragment=u.fragment/\ng v.port/\v.opq=false/\wt v<=sch.length+3*t.length+111)->v.query=u.query/\v.fragment=u.fragment/\NV v/\wt v<=3*s.length+120:=
    fun t ht ⟨h1,h2,h3,h4,h5⟩=>⟨h1,h2,⟨h3,fun h=>by rw[h4]at h;cases h⟩,by omega⟩
   split at e
   ·exact out r (Nat.le_refl _) (N2 e hF)
   ·split at e
    ·exact out _ (hd _) (xD e hF)
    ·split at e
     ·exact out _ (hd _) (xD e hF)
     ·split at e
      ·injection e with e
       have h1:pl (onP {u with scheme:=sch} (r.drop 1)).path<=pl u.path+3*(r.drop 1).length+1:=ze _ _;rw[<-e];refine⟨rfl,rfl,⟨.inl hu.port,fun h=>by rw[show(onP {u with scheme:=sch} (r.drop 1)).opq=u.opq from rfl,hu.opq]at h;cases h⟩,?_⟩;have h2:=hd 1;show sch.length+u.user.length+u.pass.length+u.host.length+pl _<=_;omega
      ·injection e with e
       have h1:=dD [] r;rw[<-e];refine⟨rfl,rfl,⟨.inl hu.port,fun _=>⟨trivial,_,rfl,trivial⟩⟩,?_⟩;show sch.length+u.user.length+u.pass.length+u.host.length+pl [ah [] r]<=_;rw[zM];omega
theorem D3 {s:Bs} {v:af} (hv:fN {query:=(Lib.cut (Lib.cut (cf s) [35]).1 [63]).2.1,hasQuery:=(Lib.cut (Lib.cut (cf s) [35]).1 [63]).2.2,fragment:=(Lib.cut (cf s) [35]).2.1,hasFragment:=(Lib.cut (cf s) [35]).2.2} (Lib.cut (Lib.cut (cf s) [35]).1 [63]).1 none=.ok v):v.query.length<=s.length/\v.fragment.length<=s.length/\NV v/\wt v+3*v.query.length+3*v.fragment.length<=3*s.length+120:=by
 have hc:=qU s;have f:=lk 35 (cf s);have q:=lk 63 (Lib.cut (cf s) [35]).1;obtain⟨h1,h2,h3,h4⟩:=Qb hv ⟨rfl,rfl,rfl,rfl,rfl,rfl,rfl⟩;rw[h1,h2];refine⟨?_,?_,h3,?_⟩
 ·show(Lib.cut (Lib.cut (cf s) [35]).1 [63]).2.1.length<=_;omega
 ·show(Lib.cut (cf s) [35]).2.1.length<=_;omega
 ·show _+3*(Lib.cut (Lib.cut (cf s) [35]).1 [63]).2.1.length+3*(Lib.cut (cf s) [35]).2.1.length<=_;omega
theorem nC {s:Bs} {u:af} (e:du s none=.ok u):NV u/\wq u<=12120:=by
 unfold du at e;split at e
 ·cases e
 ·unfold lT at e;simp only at e;obtain⟨v,hv,e⟩:=th e;injection e with e
  obtain⟨_,_,h3,h4⟩:=D3 hv;have h5:=dD (bc (if ae v.scheme then 3 else 2)) v.query;have h6:=dD (bc 1) v.fragment;rw[<-e];refine⟨⟨h3.port,h3.opaqueN⟩,?_⟩;exact Nat.le_trans (Nat.add_le_add (Nat.add_le_add_left h5 (wt v)) h6) (by omega)
def erQ:UR->Prop
 | .ok _=>True
 | .er n=>n=70\/n=71\/n=72\/n=81\/n=82
theorem mO {r:UR} {f:af->UR} (h:erQ r) (hf:∀u,erQ (f u)):erQ (r.bind f):=by
 cases r with
 | ok u=>exact hf u
 | er n=>exact h
theorem uw (u:af) (s:Bs):erQ (bQ u s):=by
 unfold bQ;split
 ·rename_i n e;cases d5:ae u.scheme with
  | true=>rw[d5]at e;rcases iv _ _ e with h|h|h<;>simp[erQ,h]
  | false=>rw[d5]at e;rcases jC _ _ e with h|h<;>simp[erQ,h]
 ·trivial
theorem Cz (u:af) (s:Bs):erQ (ck u s):=by
 unfold ck;split
 ·simp[erQ]
 ·split<;>simp[erQ]
theorem xV (u:af) (a:Bs):erQ (dZ u a):=by
 unfold dZ;split
 ·split
  ·simp[erQ]
  ·exact mO (uw _ _) fun u=>Cz _ _
 ·split
  ·simp[erQ]
  ·exact mO (uw _ _) fun u=>Cz _ _
theorem M9 (u:af) (a:Bs):erQ (gB u a):=by
 unfold gB;split
 ·split
  ·simp[erQ]
  ·exact xV _ _
 ·exact xV _ _
theorem lo (u:af) (r:Bs):erQ (df u r):=mO (M9 _ _) fun _=>trivial
theorem Gy (u b:af) (r:Bs):erQ (yY u b r):=by
 unfold yY;simp only;split
 ·exact lo _ _
 ·split<;>trivial
theorem yv (u:af) (b:Option af) (r:Bs):erQ (da u b r):=by
 unfold da;simp only;split
 ·split
  ·trivial
  ·refine mO ?_ fun _=>trivial;split
   ·trivial
   ·exact uw _ _
 ·split
  ·trivial
  ·split
   ·split
    ·split<;>trivial
    ·trivial
   ·trivial
theorem LA (u:af) (s:Bs) (b:Option af):erQ (fN u s b):=by
 unfold fN;simp only;split
 ·split
  ·exact yv _ _ _
  ·split
   ·split
    ·split
     ·exact Gy _ _ _
     ·exact lo _ _
    ·exact lo _ _
   ·split
    ·exact lo _ _
    ·split<;>trivial
 ·split
  ·simp[erQ]
  ·split
   ·simp[erQ]
   ·split
    ·trivial
    ·split
     ·exact yv _ _ _
     ·exact Gy _ _ _
theorem rz {s:Bs} {b:Option af} {n:Nat} (e:lT s b=.er n):n=70\/n=71\/n=72\/n=81\/n=82:=by
 have h:erQ (lT s b):=mO (LA _ _ _) fun _=>trivial;rw[e]at h;exact h
end Lz
namespace Go.Proofs.YtlcbhacofagedaaGreatDoor
open Go.RowKit
theorem dR (s:ByteArray) (w:World):Calls Tryz.prog 47 #[.string s] w fun e w'=>e=.returned (.int .i64 (Lz.dr s.data.toList))/\w=w':=by
 by_cases h0:s.data.toList=[104,116,116,112]
 ·have g0:=aH h0;have HV:Hid (Lz.dr s.data.toList=80):=by show _=_;rw[h0];rfl
  clear h0;go_enter Tryz.func47,Tryz.ntmps47
  go_wp2_with fail
  go_ret;rw[HV.out];exact⟨rfl,rfl⟩
 ·have g0:=aR h0;by_cases h1:s.data.toList=[119,115]
  ·have g1:=aH h1;have HV:Hid (Lz.dr s.data.toList=80):=by show _=_;rw[h1];rfl
   clear h0 h1;go_enter Tryz.func47,Tryz.ntmps47
   go_wp2_with fail
   go_ret;rw[HV.out];exact⟨rfl,rfl⟩
  ·have g1:=aR h1;by_cases h2:s.data.toList=[104,116,116,112,115]
   ·have g2:=aH h2;have HV:Hid (Lz.dr s.data.toList=443):=by show _=_;rw[h2];rfl
    clear h0 h1 h2;go_enter Tryz.func47,Tryz.ntmps47
    go_wp2_with fail
    go_ret;rw[HV.out];exact⟨rfl,rfl⟩
   ·have g2:=aR h2;by_cases h3:s.data.toList=[119,115,115]
    ·have g3:=aH h3;have HV:Hid (Lz.dr s.data.toList=443):=by show _=_;rw[h3];rfl
     clear h0 h1 h2 h3;go_enter Tryz.func47,Tryz.ntmps47
     go_wp2_with fail
     go_ret;rw[HV.out];exact⟨rfl,rfl⟩
    ·have g3:=aR h3;by_cases h4:s.data.toList=[102,116,112]
     ·have g4:=aH h4;have HV:Hid (Lz.dr s.data.toList=21):=by show _=_;rw[h4];rfl
      clear h0 h1 h2 h3 h4;go_enter Tryz.func47,Tryz.ntmps47
      go_wp2_with fail
      go_ret;rw[HV.out];exact⟨rfl,rfl⟩
     ·have g4:=aR h4
      have HV:Hid (Lz.dr s.data.toList= -1):=by
       show _=_;unfold Lz.dr;rw[if_neg (fun h=>h.elim h0 h1),if_neg (fun h=>h.elim h2 h3),if_neg (show ¬s.data.toList=Lz.Ue from h4)]
      clear h0 h1 h2 h3 h4;go_enter Tryz.func47,Tryz.ntmps47
      go_wp2_with fail
      go_ret;rw[HV.out];exact⟨rfl,rfl⟩
theorem Qy (s:List UInt8) (h0:¬s=Lz.fileS):Lz.ae s=decide (0<=Lz.dr s):=by
 unfold Lz.ae;have:(s==Lz.fileS)=false:=by rw[beq_eq_false_iff_ne];exact h0
 rw[this,Bool.false_or];unfold Lz.dr;split
 ·rfl
 ·split
  ·rfl
  ·split<;>rfl
theorem kf (s:ByteArray) (w:World):Calls Tryz.prog 22 #[.string s] w fun e w'=>e=.returned (.bool (Lz.ae s.data.toList))/\w=w':=by
 by_cases h0:s.data.toList=[102,105,108,101]
 ·have g0:=aH h0;have HV:Hid (Lz.ae s.data.toList=true):=by show _=_;rw[h0];rfl
  clear h0;go_enter Tryz.func22,Tryz.ntmps22
  go_wp2_with fail
  go_ret;rw[HV.out];exact⟨rfl,rfl⟩
 ·have g0:=aR h0;have cD:=dR s w;have d5:=Qy _ h0;obtain⟨d,hd⟩:∃d,d=Lz.dr s.data.toList:=⟨_,rfl⟩;rw[<-hd]at cD d5;have CD:=Ih cD;by_cases o6:0<=d
  ·have HV:Hid (Lz.ae s.data.toList=true):=Ih (d5.trans (decide_eq_true o6));clear h0 cD hd d5;go_enter Tryz.func22,Tryz.ntmps22
   go_wp2_with fail
   refine CD.out.mono ?_;rintro e w1 ⟨rfl,rfl⟩
   go_wp2_with fail
   go_ret;rw[HV.out];exact⟨rfl,rfl⟩
  ·have HV:Hid (Lz.ae s.data.toList=false):=Ih (d5.trans (decide_eq_false o6));clear h0 cD hd d5;go_enter Tryz.func22,Tryz.ntmps22
   go_wp2_with fail
   refine CD.out.mono ?_;rintro e w1 ⟨rfl,rfl⟩
   go_wp2_with fail
   go_ret;rw[HV.out];exact⟨by simp[o6],rfl⟩
end Go.Proofs.YtlcbhacofagedaaGreatDoor
namespace Lz
open Go
def dlN:Bs->Option Nat
 | []=>some 0
 | 46::r=>(dlN r).map (·+1)
 | 37::50::101::r=>(dlN r).map (·+1)
 | 37::50::69::r=>(dlN r).map (·+1)
 | _=>none
theorem li:∀c:UInt8,(low1 c=46↔c=46)/\(low1 c=37↔c=37)/\(low1 c=50↔c=50)/\(low1 c=101↔(c=101\/c=69)):=au (by decide +kernel)
theorem jy (c:UInt8) (r:Bs):low (c::r)=low1 c::low r:=rfl
def Cq (p:Bs):Nat:=(dlN p).getD 0
theorem Fq:∀(n:Nat) (p:Bs),p.length<=n->(∀m,dlN p=some m->unE (low p)=List.replicate m 46)/\(dlN p=none->∃x∈unE (low p),x≠46)
 | 0,[],_=>⟨fun m h=>by cases h;rfl,fun h=>by cases h⟩
 | n+1,[],_=>⟨fun m h=>by cases h;rfl,fun h=>by cases h⟩
 | n+1,c::r,hn=>by
   simp only[List.length_cons]at hn;by_cases Gq:c=46
   ·subst Gq;have ih:=Fq n r (by omega);have e1:dlN (46::r)=(dlN r).map (·+1):=rfl;have e2:unE (low (46::r))=46::unE (low r):=by rw[jy];rw[show low1 46=46 from rfl,Ae (by rfl)]
    rw[e1,e2];cases hd:dlN r with
    | none=>
      obtain⟨x,hx,dG⟩:=ih.2 hd;exact⟨fun m h=>(by cases h),fun _=>⟨x,List.mem_cons_of_mem _ hx,dG⟩⟩
    | some k=>
      refine⟨fun m h=>?_,fun h=>by cases h⟩;simp only[Option.map_some,Option.some.injEq]at h;rw[ih.1 k hd,<-h];rfl
   ·by_cases h3:∃d r',r=50::d::r'/\c=37/\(d=101\/d=69)
    ·obtain⟨d,r',rfl,rfl,hd3⟩:=h3;have ih:=Fq n r' (by simp at hn;omega);have e1:dlN (37::50::d::r')=(dlN r').map (·+1):=by rcases hd3 with rfl|rfl<;>rfl
     have e2:unE (low (37::50::d::r'))=46::unE (low r'):=by
      rw[jy,jy,jy];rcases hd3 with rfl|rfl<;>exact H6 _
     rw[e1,e2];cases hd:dlN r' with
     | none=>
       obtain⟨x,hx,dG⟩:=ih.2 hd;exact⟨fun m h=>(by cases h),fun _=>⟨x,List.mem_cons_of_mem _ hx,dG⟩⟩
     | some k=>
       refine⟨fun m h=>?_,fun h=>by cases h⟩;simp only[Option.map_some,Option.some.injEq]at h;rw[ih.1 k hd,<-h];rfl
    ·have e1:dlN (c::r)=none:=by
      unfold dlN;split
      ·rename_i h;cases h
      ·rename_i h;injection h with h1 _;exact absurd h1 Gq
      ·rename_i h;injection h with h1 h2;exact absurd ⟨_,_,h2,h1,Or.inl rfl⟩ h3
      ·rename_i h;injection h with h1 h2;exact absurd ⟨_,_,h2,h1,Or.inr rfl⟩ h3
      ·rfl
     have iL:([37,50,101]:Bs).isPrefixOf (low1 c::low r)=false:=by
      cases hp:([37,50,101]:Bs).isPrefixOf (low1 c::low r)with
      | false=>rfl
      | true=>
        exfalso
        obtain⟨q,hq⟩:=AJ hp;injection hq with h1 h2
        cases r with
        | nil=>cases h2
        | cons d r1=>
          rw[jy]at h2;injection h2 with h2 h4
          cases r1 with
          | nil=>cases h4
          | cons e r2=>
            rw[jy]at h4;injection h4 with h4 _
            obtain⟨_,k1,_,_⟩:=li c;obtain⟨_,_,k2,_⟩:=li d;obtain⟨_,_,_,k3⟩:=li e;have:=k2.1 h2;subst this;exact h3 ⟨e,r2,rfl,k1.1 h1,k3.1 h4⟩
     rw[e1,jy,Ae iL];exact⟨fun m h=>(by cases h),fun _=>⟨low1 c,by simp,fun h=>Gq ((li c).1.1 h)⟩⟩
theorem Rq (p:Bs):(Cq p=1↔dN p=1)/\(Cq p=2↔dN p=2):=by
 obtain⟨h1,h2⟩:=Fq p.length p (Nat.le_refl _);unfold Cq dN;cases hd:dlN p with
 | none=>
   obtain⟨x,hx,dG⟩:=h2 hd;have n1:¬unE (low p)=[46]:=fun e=>by rw[e]at hx;simp at hx;exact dG hx
   have n2:¬unE (low p)=[46,46]:=fun e=>by rw[e]at hx;simp at hx;exact dG hx
   rw[if_neg n1,if_neg n2]
   simp
 | some m=>
   rw[h1 m hd];have r1:(List.replicate m (46:UInt8)=[46])↔m=1:=⟨fun h=>by have:=congrArg List.length h;simpa using this,fun h=>by rw[h];rfl⟩;have r2:(List.replicate m (46:UInt8)=[46,46])↔m=2:=⟨fun h=>by have:=congrArg List.length h;simpa using this,fun h=>by rw[h];rfl⟩;simp only[r1,r2,Option.getD_some];by_cases k1:m=1
   ·simp[k1]
   ·by_cases k2:m=2
    ·simp[k2]
    ·simp[k1,k2]
theorem UO (r:Bs):dlN (46::r)=(dlN r).map (·+1):=rfl
theorem Je {a b c:UInt8} (h:low [a,b,c]=[37,50,101]) (r:Bs):dlN (a::b::c::r)=(dlN r).map (·+1):=by
 simp only[low,List.map_cons,List.map_nil,List.cons.injEq,and_true]at h;obtain⟨h1,h2,h3⟩:=h;have:=(li a).2.1.1 h1;have:=(li b).2.2.1.1 h2;subst a b;rcases(li c).2.2.2.1 h3 with rfl|rfl<;>rfl
theorem S1 {c:UInt8} {r:Bs} (Gq:c≠46) (h3:low ((c::r).take 3)≠[37,50,101]):dlN (c::r)=none:=by
 unfold dlN;split
 ·rename_i h;cases h
 ·rename_i h;injection h with h1 _;exact absurd h1 Gq
 ·rename_i h;rw[h]at h3;exact absurd rfl h3
 ·rename_i h;rw[h]at h3;exact absurd rfl h3
 ·rfl
def pK:Nat->Bs->Nat
 | n,[]=>n
 | n,c::r=>pK (min (10*n+(c.toNat-48)) 100000) r
def lR (scheme s:Bs):Int:=if 65535<pK 0 s then -2 else if s=[]\/(pK 0 s:Int)=dr scheme then -1 else(pK 0 s:Int)
theorem Np (s:Bs) (hd:s.all aA=true):∀(n m:Nat),(n=m/\n<=65535)\/(65535<n/\65535<m/\n<=1048576)->∃k,fY n s=some k/\((k=pK m s/\k<=65535)\/(65535<k/\65535<pK m s)):=by
 induction s with
 | nil=>
   intro n m h;refine⟨n,rfl,?_⟩;have e:pK m []=m:=rfl;rw[e];omega
 | cons c r ih=>
   intro n m h;rw[List.all_cons,Bool.and_eq_true]at hd;have e1:fY n (c::r)=fY (min (10*n+(c.toNat-48)) 1048576) r:=by rw[fY,if_pos hd.1]
   have e2:pK m (c::r)=pK (min (10*m+(c.toNat-48)) 100000) r:=rfl;rw[e1,e2];generalize c.toNat-48=x;refine ih hd.2 _ _ ?_;rcases h with⟨h1,h2⟩|⟨h1,h2,h3⟩
   ·subst h1;by_cases hx:10*n+x<=65535
    ·left;rw[Nat.min_eq_left (by omega),Nat.min_eq_left (by omega)];exact⟨rfl,hx⟩
    ·right;refine⟨?_,?_,Nat.min_le_right _ _⟩
     ·rw[Nat.lt_min];omega
     ·rw[Nat.lt_min];omega
   ·right;refine⟨?_,?_,Nat.min_le_right _ _⟩
    ·rw[Nat.lt_min];omega
    ·rw[Nat.lt_min];omega
theorem Nd {u:af} (hu:u.port= -1) {s:Bs} (hd:s.all aA=true):(lR u.scheme s= -2->ck u s=.er 81)/\(lR u.scheme s≠ -2->ck u s=.ok {u with port:=lR u.scheme s})/\ -2<=lR u.scheme s/\lR u.scheme s<=65535:=by
 obtain⟨k,hk,h⟩:=Np s hd 0 0 (Or.inl ⟨rfl,by omega⟩);unfold lR ck;rw[hk];simp only;rcases h with⟨h1,h2⟩|⟨h1,h2⟩
 ·rw[<-h1];have n1:¬65535<k:=by omega
  simp only[n1,if_false];by_cases he:s=[]\/(k:Int)=dr u.scheme
  ·have n2:¬(s≠[]/\(k:Int)≠dr u.scheme):=fun h=>he.elim h.1 h.2;simp only[he,if_true,n2,if_false];refine⟨fun h=>by omega,fun _=>?_,by omega,by omega⟩;rw[<-hu]
  ·have n2:s≠[]/\(k:Int)≠dr u.scheme:=⟨fun h=>he (Or.inl h),fun h=>he (Or.inr h)⟩;rw[if_neg he,if_pos n2];exact⟨fun h=>by omega,fun _=>rfl,by omega,by omega⟩
 ·rw[if_pos h2,if_pos h1];exact⟨fun _=>rfl,fun h=>absurd rfl h,by omega,by omega⟩
end Lz
