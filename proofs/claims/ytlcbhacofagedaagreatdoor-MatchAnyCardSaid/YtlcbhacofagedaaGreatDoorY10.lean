/-
  What the library's functions that package hosts calls besides return: IndexFunc at the predicate of a domain's bytes, Join of nothing, Cut, ContainsAny.
-/
import Derived.Test.YtlcbhacofagedaaGreatDoorY09
import Derived.Test.YtlcbhacofagedaaGreatDoorY08
import Derived.StillTailTactics
import Derived.Shelf.Strings.SlTrimAscii
import Derived.Lib.MapLaws
set_option maxHeartbeats 1000000
set_option maxRecDepth 100000
namespace Go.Proofs
open Go.Shelf
def Tryz.lays156_ren:Go.Shelf.Ren:=⟨fun|156=>112|165=>160|166=>84|169=>86|240=>139|241=>208|276=>188|277=>242|n=>n,fun|31=>23|9=>9|3=>3|4=>4|0=>0|20=>20|72=>88|76=>89|70=>86|37=>63|75=>59|127=>139|164=>106|5=>5|80=>91|n=>n,fun|n=>n⟩
theorem Tryz.lays156:Go.Proofs.Lays.n156 Tryz.prog Tryz.lays156_ren:=by repeat' first |kernel_rfl|(intro w;rfl)|(intro w;kernel_rfl)|decide|constructor
theorem Tryz.Builder_Extra_156:Builder.Extra Tryz.prog Tryz.lays156_ren:=by repeat' first |kernel_rfl|(intro w;rfl)|(intro w;kernel_rfl)|decide|constructor
open Go.RowKit in
theorem Tryz.strings_Join (bk o c:Nat) (xs:List ByteArray) (sep:ByteArray) (w:World) (aO:∀(j:Nat) x,xs[j]? =some x->w.cell? ⟨bk,o+j,none⟩=some (.string x)) (vU:bk<w.heap.size) (hN:xs.length<=140737488355328) (nk:xs.length<=c) (bv:(Lib.join (xs.map (·.data.toList)) sep.data.toList).length<=140737488355328):
 Calls Tryz.prog 112 #[.slice (some ⟨bk,o,none⟩) xs.length c,.string sep] w fun e w'=>e=.returned (.string ⟨(Lib.join (xs.map (·.data.toList)) sep.data.toList).toArray⟩)/\Below w.heap.size w w':=Any.strings_Join Tryz.lays156 Tryz.Builder_Extra_156 bk o c xs sep w aO vU hN nk bv
def Tryz.lays160_ren:Go.Shelf.Ren:=⟨fun|160=>202|232=>231|231=>182|227=>183|234=>232|233=>184|236=>233|235=>185|228=>223|271=>244|151=>170|197=>213|120=>268|152=>218|260=>245|137=>137|119=>252|224=>210|225=>209|217=>187|266=>225|n=>n,fun|9=>9|4=>4|3=>3|5=>5|117=>189|116=>188|0=>0|124=>192|21=>21|105=>213|46=>137|119=>246|139=>270|138=>269|n=>n,fun|3=>5|4=>6|n=>n⟩
theorem Tryz.lays160:Go.Proofs.Lays.n160 Tryz.prog Tryz.lays160_ren:=by repeat' first |kernel_rfl|(intro w;rfl)|(intro w;kernel_rfl)|decide|constructor
def Tryz.laysPu14_ren:Go.Shelf.Ren:=⟨fun|14=>293|16=>275|17=>235|19=>291|20=>292|21=>259|22=>260|23=>261|24=>262|25=>276|27=>62|26=>277|28=>95|29=>142|30=>189|31=>190|32=>191|33=>192|35=>227|34=>226|36=>228|37=>229|38=>230|39=>256|40=>257|n=>n,fun|9=>9|3=>3|22=>198|24=>59|25=>208|4=>4|34=>255|5=>5|36=>137|37=>63|0=>0|39=>258|21=>21|44=>289|47=>139|50=>305|48=>303|2=>2|52=>197|55=>201|59=>220|60=>168|20=>20|61=>221|65=>285|66=>286|67=>91|n=>n,fun|0=>9|1=>10|2=>4|3=>7|4=>8|n=>n⟩
theorem Tryz.laysPu14:Go.Proofs.LaysPu.n14 Tryz.prog Tryz.laysPu14_ren:=by repeat' first |kernel_rfl|(intro w;rfl)|(intro w;kernel_rfl)|decide|constructor
open Go.RowKit in
theorem Tryz.strconv_ParseUint_10_at8_ok (s:ByteArray) (WO:s.size<=9223372036854775806) (u:Nat) (h:Lib.parseUintB 8 s.data.toList=.ok u) (w:World):
 Calls Tryz.prog 293 #[.string s,.int .i64 10,.int .i64 8] w fun e w'=>e=.returned (.tuple #[.int .u64 u,.nilIface])/\(w'=w\/w'=Lib.bytesWorld w 5 s):=Any.strconv_ParseUint_10_at8_ok Tryz.laysPu14 s WO u h w
open Go.RowKit in
theorem Tryz.strconv_ParseUint_10_at8_syntax (s:ByteArray) (Ga:s.size<=281474976710656) (h:Lib.parseUintB 8 s.data.toList=Lib.parseUintB 8 []) (ev:Value) (w:World) (hv:w.cell? ⟨9,0,none⟩=some ev) (Wk:ev=.nilIface\/∃te pe,ev=.iface te pe):
 Calls Tryz.prog 293 #[.string s,.int .i64 10,.int .i64 8] w fun e w'=>∃N,e=.returned (.tuple #[.int .u64 0,.iface 258 (.pointer (some ⟨N,0,none⟩))])/\w.heap.size<=N/\w'.heap[N]? =some (.cells #[.string ⟨#[80,97,114,115,101,85,105,110,116]⟩,.string s,ev] 289 (0,0))/\Below w.heap.size w w':=Any.strconv_ParseUint_10_at8_syntax Tryz.laysPu14 s Ga h ev w hv Wk
open Go.RowKit in
theorem Tryz.strconv_ParseUint_10_at8_range (s:ByteArray) (Ga:s.size<=281474976710656) (h:Lib.parseUintB 8 s.data.toList=.range) (ev:Value) (w:World) (hv:w.cell? ⟨10,0,none⟩=some ev) (Wk:ev=.nilIface\/∃te pe,ev=.iface te pe):
 Calls Tryz.prog 293 #[.string s,.int .i64 10,.int .i64 8] w fun e w'=>∃N,e=.returned (.tuple #[.int .u64 255,.iface 258 (.pointer (some ⟨N,0,none⟩))])/\w.heap.size<=N/\w'.heap[N]? =some (.cells #[.string ⟨#[80,97,114,115,101,85,105,110,116]⟩,.string s,ev] 289 (0,0))/\Below w.heap.size w w':=Any.strconv_ParseUint_10_at8_range Tryz.laysPu14 s Ga h ev w hv Wk
end Go.Proofs
namespace Go.Proofs.YtlcbhacofagedaaGreatDoor
open Go.RowKit
def u8s (l:List UInt8):List Value:=l.map fun c=>Value.int .u8 c.toNat
theorem uz (l:List UInt8) (c:UInt8):u8s l++[.int .u8 (c.toNat:Int)]=u8s (l++[c]):=by simp[u8s]
theorem Tryz.infoU8:(Tryz.prog.info? 5).map (fun i=>(i.zero,i.size,i.bytes))=some (some (.int .u8 0),1,1):=by kernel_rfl
theorem aY (w:World) (v:Value) (T:TypeId) (j:Nat) (u:Value) (h:[v][j]? =some u):(w.alloc (.cells #[v] T)).cell? ((⟨w.heap.size,0,none⟩:Addr).add j)=some u:=by
 rw[fa,World.cell?_alloc_mark];have hj:j<1:=by have:=(List.getElem?_eq_some_iff.1 h).1;simpa using this
 obtain rfl:j=0:=by omega
 simpa using h
theorem Below.grown1 {B:Nat} {a w w':World} {o:Obj} {v:Value} {base e size n:Nat} {xs:List Value} (h:Below B a w) (aQ:w.ownsRow base e size v n xs) (hg:(w.alloc o).grownBy w' v.ownBlock) (hB:B<=w.heap.size) (hb:B<=base):Below B a w':=
 (h.alloc hB o).grown hg (by simp;omega) (fun k hk=>Nat.le_trans hb ((aQ.alloc o).lt k hk).1)
theorem LK (w:World):(convert 63 9 (.slice none 0 0)).run Tryz.prog w=.ok (.string ⟨#[]⟩) w:=by kernel_rfl
theorem um {w:World} {base:Nat} {v:Value} {n:Nat} {l:List UInt8} (h:w.ownsRow base 5 1 v n (u8s l)):
  (convert 63 9 v).run Tryz.prog w=.ok (.string ⟨l.toArray⟩) w:=by
 have hl:l.length=n:=by have:=h.1;simpa [u8s]using this
 rcases h.2 with⟨rfl,h0⟩|⟨g,cap,ir,rfl,TF,hg,hn,hcm,iV,gE⟩
 ·obtain rfl:l=[]:=List.length_eq_zero_iff.1 (by omega);exact LK w
 ·rw[<-hl];refine run_convert_bytes_back (P:=Tryz.prog) w 63 9 5 ⟨g,0,none⟩ cap l Tryz.underlying63 Tryz.underlying5 Tryz.underlying9 ?_;intro j hj;rw[fa]
  have h1:ir[j]? =some (.int .u8 (l[j].toNat:Int)):=by
   have h2:(u8s l)[j]? =some (.int .u8 (l[j].toNat:Int)):=by simp[u8s,hj]
   rw[<-gE,List.getElem?_take]at h2;split at h2
   ·simpa using h2
   ·cases h2
  simp[World.cell?,hg,h1]
def SlB (w:World) (v:Value) (l:List UInt8):Prop:=
 ∃a c,v=.slice a l.length c/\l.length<=9223372036854775807/\∀(j:Nat) (b:UInt8),l[j]? =some b->∃B off,a=some ⟨B,off,none⟩/\B<w.heap.size/\w.cell? ⟨B,off+j,none⟩=some (.int .u8 b.toNat)
theorem ai (a b:ByteArray):(a++b).data.toList=a.data.toList++b.data.toList:=by simp
end Go.Proofs.YtlcbhacofagedaaGreatDoor
namespace Lz
open Go
theorem E2 {l:List Nat} {k:Nat} (h:l[k]? =some 0):bo (l.drop k)=1+bo (l.drop (k+1)):=by
 have hk:=(List.getElem?_eq_some_iff.1 h).1;rw[List.drop_eq_getElem_cons hk];have:l[k]=0:=(List.getElem?_eq_some_iff.1 h).2;rw[this];unfold bo;rw[List.takeWhile_cons]
 simp;omega
theorem IN {l:List Nat} {k x:Nat} (h:l[k]? =some x) (hx:x≠0):bo (l.drop k)=0:=by
 have hk:=(List.getElem?_eq_some_iff.1 h).1;rw[List.drop_eq_getElem_cons hk];have:l[k]=x:=(List.getElem?_eq_some_iff.1 h).2;rw[this];unfold bo;rw[List.takeWhile_cons]
 simp[hx]
theorem AL {l:List Nat} {i:Nat} (f:Nat×Nat) (hi:i<l.length):fT i (l.drop i) f=fT (i+1) (l.drop (i+1)) (if max (f.2-f.1) 1<bo (l.drop i)then(i,i+bo (l.drop i))else f):=by
 rw[List.drop_eq_getElem_cons hi];rfl
end Lz
namespace Go.Proofs.YtlcbhacofagedaaGreatDoor
open Go.RowKit
def Fv (l:List Nat):Value:=.agg (l.map fun n:Nat=>Value.int .u16 (n:Int)).toArray
def X4 (l:List Nat) (w:World) (e:Ending) (w':World):Prop:=e=.returned (.tuple #[.int .i64 ((Lz.fT 0 l (0,0)).1:Nat),.int .i64 ((Lz.fT 0 l (0,0)).2:Nat)])/\Below w.heap.size w w'
theorem Rc (l:List Nat) (h8:l.length=8) (w:World):Calls Tryz.prog 264 #[Fv l] w (X4 l w):=by
 unfold Fv;obtain⟨w1,iW⟩:∃w1,w1=w.alloc (.cells (l.map fun n:Nat=>Value.int .u16 (n:Int)).toArray 230):=⟨_,rfl⟩
 have hc:∀j x,l[j]? =some x->w1.cell? ⟨w.heap.size,j,none⟩=some (.int .u16 (x:Nat)):=by
  intro j x hj;rw[iW,World.cell?_alloc_mark]
  simp[hj]
 have aC:Below w.heap.size w w1:=by rw[iW];exact(Below.refl _ w).alloc (Nat.le_refl _) _
 have Hc:=Ih hc;have H8:=Ih h8;clear hc h8;go_enter Tryz.func264,Tryz.ntmps264
 go_wp2
 rw[<-iW];clear iW
 go_loop [2,3,6] (fun a b c=>∃i f t:Nat,i<=8/\f<=t/\t<=8/\a=.int .i64 f/\b=.int .i64 t/\c=.int .i64 i/\Hid (Lz.fT i (l.drop i) (f,t)=Lz.fT 0 l (0,0))) (fun _ _ c=>8-(intOf c).toNat)
 case atStart=>exact⟨0,0,0,by omega,by omega,by omega,rfl,rfl,rfl,Ih rfl⟩
 case round=>
  obtain⟨i,f,t,hi,PC,ht,rfl,rfl,rfl,hR⟩:=hrel;by_cases aN:i<8
  ·have Xp:Lz.bo (l.drop 8)=0:=by rw[List.drop_eq_nil_of_le (by rw[H8.out];exact Nat.le_refl _)];rfl
   have Hz8:=Ih Xp;clear Xp
   go_wp2
   go_loop [5] (fun c=>∃k:Nat,i<=k/\k<=8/\c=.int .i64 k/\Hid (Lz.bo (l.drop i)=(k-i)+Lz.bo (l.drop k))) (fun c=>8-(intOf c).toNat)
   case atStart=>exact⟨i,Nat.le_refl _,by omega,rfl,by show _=_;omega⟩
   case round=>
    obtain⟨k,hik,hk,rfl,hZ⟩:=hrel;by_cases XI:k<8
    ·obtain⟨x,hx⟩:∃x,l[k]? =some x:=⟨_,List.getElem?_eq_getElem (by rw[H8.out];exact XI)⟩;have oY:=Hc.out k x hx;by_cases j8:x=0
     ·have VN:((x:Int)==0)=true:=by rw[j8];rfl
      have Il:Hid (Lz.bo (l.drop i)=(k+1-i)+Lz.bo (l.drop (k+1))):=by
       show _=_;rw[j8]at hx;rw[hZ.out,Lz.E2 hx];omega
      clear hx j8
      go_wp2
      go_round
      case rel=>exact⟨k+1,by omega,by omega,by go_num,Il⟩
      case measure=>simp[intOf];omega
     ·have VN:((x:Int)==0)=false:=beq_eq_false_iff_ne.2 (by omega);have Il:Hid (Lz.bo (l.drop i)=k-i):=by show _=_;rw[hZ.out,Lz.IN hx j8];omega
      clear hx j8;have hst:=Lz.AL (f,t) (show i<l.length by rw[H8.out];exact aN);rw[Il.out,hR.out]at hst;have fQ:=Ih hst;clear hst;obtain⟨d,hd⟩:∃d:Nat,d=k-i:=⟨_,rfl⟩;obtain⟨g,hg⟩:∃g:Nat,g=t-f:=⟨_,rfl⟩;have xd:(k:Int)-i=d:=by omega
      have DP:(t:Int)-f=g:=by omega
      have VG:i+(k-i)=k:=by omega
      by_cases hm:max (t-f) 1<k-i
      ·have hm':max (g:Int) 1<d:=by omega
       have HS:Hid (Lz.fT (i+1) (l.drop (i+1)) (i,k)=Lz.fT 0 l (0,0)):=by
        show _=_;have:=fQ.out;rw[if_pos hm,VG]at this;exact this.symm
       clear hd hg hm VG
       go_wp2
       go_round
       case rel=>exact⟨i+1,i,k,by omega,hik,hk,rfl,rfl,by go_num,HS⟩
       case measure=>simp[intOf];omega
      ·have hm':¬max (g:Int) 1<d:=by omega
       have HS:Hid (Lz.fT (i+1) (l.drop (i+1)) (f,t)=Lz.fT 0 l (0,0)):=by
        show _=_;have:=fQ.out;rw[if_neg hm]at this;exact this.symm
       clear hd hg hm VG
       go_wp2
       go_round
       case rel=>exact⟨i+1,f,t,by omega,PC,ht,rfl,rfl,by go_num,HS⟩
       case measure=>simp[intOf];omega
    ·have Il:Hid (Lz.bo (l.drop i)=k-i):=by
      show _=_;have:k=8:=by omega
      have hz:=hZ.out;rw[this,Hz8.out]at hz;omega
     have hst:=Lz.AL (f,t) (show i<l.length by rw[H8.out];exact aN);rw[Il.out,hR.out]at hst;have fQ:=Ih hst;clear hst;obtain⟨d,hd⟩:∃d:Nat,d=k-i:=⟨_,rfl⟩;obtain⟨g,hg⟩:∃g:Nat,g=t-f:=⟨_,rfl⟩;have xd:(k:Int)-i=d:=by omega
     have DP:(t:Int)-f=g:=by omega
     have VG:i+(k-i)=k:=by omega
     by_cases hm:max (t-f) 1<k-i
     ·have hm':max (g:Int) 1<d:=by omega
      have HS:Hid (Lz.fT (i+1) (l.drop (i+1)) (i,k)=Lz.fT 0 l (0,0)):=by
       show _=_;have:=fQ.out;rw[if_pos hm,VG]at this;exact this.symm
      clear hd hg hm VG
      go_wp2
      go_round
      case rel=>exact⟨i+1,i,k,by omega,hik,hk,rfl,rfl,by go_num,HS⟩
      case measure=>simp[intOf];omega
     ·have hm':¬max (g:Int) 1<d:=by omega
      have HS:Hid (Lz.fT (i+1) (l.drop (i+1)) (f,t)=Lz.fT 0 l (0,0)):=by
       show _=_;have:=fQ.out;rw[if_neg hm]at this;exact this.symm
      clear hd hg hm VG
      go_wp2
      go_round
      case rel=>exact⟨i+1,f,t,by omega,PC,ht,rfl,rfl,by go_num,HS⟩
      case measure=>simp[intOf];omega
  ·have Y1:i=8:=by omega
   have ou:Hid (Lz.fT 0 l (0,0)=(f,t)):=by
    show _=_;rw[<-hR.out,Y1,List.drop_eq_nil_of_le (by rw[H8.out];exact Nat.le_refl _)];rfl
   clear Y1
   go_wp2
   go_ret2
   exact⟨by rw[ou.out];rfl,aC⟩
end Go.Proofs.YtlcbhacofagedaaGreatDoor
namespace Lz
open Go
def g6 (d:Nat):UInt8:=if d<10 then UInt8.ofNat (48+d)else UInt8.ofNat (87+d)
theorem IY:∀d:Fin 16,dx (g6 d.val)=some d.val:=by decide +kernel
theorem Dd {d:Nat} (h:d<16):dx (g6 d)=some d:=IY ⟨d,h⟩
theorem jH {n:Nat} (h:n<16):fd n=[g6 n]:=by
 rw[fd,dif_pos h,Nat.mod_eq_of_lt h];unfold g6;rfl
theorem pO {n:Nat} (h:¬n<16):fd n=fd (n / 16)++[g6 (n%16)]:=by
 rw[fd,dif_neg h];unfold g6;rfl
def yQ (c:UInt8):Bool:=aA c||(97<=c&&c<=102)
theorem NL:∀d:Fin 16,yQ (g6 d.val)=true:=by decide +kernel
theorem GZ {d:Nat} (h:d<16):yQ (g6 d)=true:=NL ⟨d,h⟩
theorem tX (n:Nat):∀c∈fd n,yQ c=true:=by
 induction n using Nat.strongRecOn with
 | ind n ih=>
   by_cases h:n<16
   ·rw[jH h];intro c hc;rw[List.mem_singleton]at hc;rw[hc];exact GZ h
   ·rw[pO h];intro c hc;rcases List.mem_append.1 hc with hc|hc
    ·exact ih (n / 16) (by omega) c hc
    ·rw[List.mem_singleton]at hc;rw[hc];exact GZ (by omega)
theorem jS (n:Nat):fd n≠[]:=by
 rw[fd];simp
theorem qt (k:Nat):∀n,n<16^(k+1)->(fd n).length<=k+1:=by
 induction k with
 | zero=>intro n h;rw[jH (by simpa using h)];simp
 | succ k ih=>
   intro n h;by_cases h1:n<16
   ·rw[jH h1];simp
   ·rw[pO h1];have:=ih (n / 16) (by rw[Nat.pow_succ]at h;omega);simp only[List.length_append,List.length_singleton];omega
def ri (n:Nat) (c:UInt8):Option Nat:=(dx c).map (n*16+·)
theorem J6 (n:Nat):(fd n).foldlM ri 0=some n:=by
 induction n using Nat.strongRecOn with
 | ind n ih=>
   by_cases h:n<16
   ·rw[jH h]
    simp[List.foldlM_cons,ri,Dd h]
   ·rw[pO h,List.foldlM_append,ih (n / 16) (by omega)];simp only[Option.bind_eq_bind,Option.bind_some,List.foldlM_cons,List.foldlM_nil,ri,Dd (show n%16<16 by omega),Option.map_some];show some _=_;congr 1;omega
theorem Fi {n:Nat} (h:n<65536):eD (fd n)=some n:=by
 unfold eD;have hl:=qt 3 n (by simpa using h);rw[if_neg]
 ·exact J6 n
 ·rintro(h1|h1)
  ·exact jS n h1
  ·omega
theorem je:∀c:UInt8,∀d,dx c=some d->d<16:=by
 intro c;revert c;have:∀c:UInt8,(match dx c with|some d=>decide (d<16)|none=>true)=true:=au (by decide +kernel);intro c d h;have:=this c;rw[h]at this;simpa using this
theorem QZ {l:Bs}:∀{n m:Nat},l.foldlM ri n=some m->m<(n+1)*16^l.length:=by
 induction l with
 | nil=>intro n m h;simp at h;simp;omega
 | cons c r ih=>
   intro n m h;rw[List.foldlM_cons]at h;unfold ri at h;cases hc:dx c with
   | none=>rw[hc]at h;cases h
   | some d=>
     rw[hc]at h;have hd:=je c d hc;have h2:=ih (n:=n*16+d) h;rw[List.length_cons,Nat.pow_succ];have:(n*16+d+1)*16^r.length<=((n+1)*16)*16^r.length:=Nat.mul_le_mul_right _ (by omega);rw[Nat.mul_comm (16^r.length) 16,<-Nat.mul_assoc];omega
theorem I2 {x:Bs} {n:Nat} (h:eD x=some n):n<65536:=by
 unfold eD at h;split at h
 ·cases h
 ·rename_i hx;have h2:=QZ (l:=x) (n:=0) (m:=n) h;have:(16:Nat)^x.length<=16^4:=Nat.pow_le_pow_right (by omega) (by omega);omega
theorem l8 (k:UInt8):∀l:Bs,(∀c∈l,c≠k)->ag k l=[l]
 | [],_=>rfl
 | c::l,h=>by
   rw[ag,if_neg (by simpa using h c (by simp)),l8 k l (fun x hx=>h x (by simp[hx]))]
theorem vr (k:UInt8):∀(a b:Bs),(∀c∈a,c≠k)->ag k (a++k::b)=a::ag k b
 | [],b,_=>by simp[ag]
 | c::a,b,h=>by
   show ag k (c::(a++k::b))=_;rw[ag,if_neg (by simpa using h c (by simp)),vr k a b (fun x hx=>h x (by simp[hx]))]
theorem mD (k:UInt8):∀ls:List Bs,ls≠[]->(∀x∈ls,∀c∈x,c≠k)->ag k (dv [k] ls)=ls
 | [],h,_=>absurd rfl h
 | [x],_,h=>by rw[dv];exact l8 k x (h x (by simp))
 | x::y::r,_,h=>by
   rw[dv,List.append_assoc,List.singleton_append,vr k x _ (h x (by simp)),mD k (y::r) (by simp) (fun z hz=>h z (by simp[hz]))]
theorem yi {sep:Bs}:∀{ls:List Bs} {c:UInt8},c∈dv sep ls->c∈sep\/∃x∈ls,c∈x
 | [],c,h=>by simp[dv]at h
 | [x],c,h=>Or.inr ⟨x,by simp,h⟩
 | x::y::r,c,h=>by
   rw[dv]at h;rcases List.mem_append.1 h with h|h
   ·rcases List.mem_append.1 h with h|h
    ·exact Or.inr ⟨x,by simp,h⟩
    ·exact Or.inl h
   ·rcases yi h with h|⟨z,hz,hc⟩
    ·exact Or.inl h
    ·exact Or.inr ⟨z,by simp[hz],hc⟩
theorem qf {sep:Bs}:∀{ls:List Bs},ls≠[]->(∀x∈ls,x≠[])->dv sep ls≠[]
 | [],h,_=>absurd rfl h
 | [x],_,h=>h x (by simp)
 | x::y::r,_,h=>by
   rw[dv];have:=h x (by simp);cases x with
   | nil=>exact absurd rfl this
   | cons a b=>simp
theorem tS:∀c:UInt8,yQ c=true->c≠58/\c≠46:=au (by decide +kernel)
theorem kJ (n:Nat):∀c∈fd n,c≠58/\c≠46:=fun c hc=>tS c (tX n c hc)
theorem C5 (last:Bool):∀l:List Nat,(∀n∈l,n<65536)->gL last (l.map fd)=some l
 | [],_=>rfl
 | n::l,h=>by
   have Gq:(fd n).contains 46=false:=by
    rw[Bool.eq_false_iff];intro hc;exact(kJ n 46 (List.contains_iff_mem.1 hc)).2 rfl
   rw[List.map_cons,gL,Gq,Fi (h n (by simp)),C5 last l (fun m hm=>h m (by simp[hm]))]
   simp
theorem oL (last:Bool) (l:List Nat) (h:∀n∈l,n<65536):eM (bj l) last=some l:=by
 unfold eM;by_cases hl:l=[]
 ·rw[hl];rfl
 ·have dG:bj l≠[]:=by
   unfold bj;exact qf (by simpa using hl) (by intro x hx;obtain⟨n,_,rfl⟩:=List.mem_map.1 hx;exact jS n)
  rw[if_neg dG];unfold bj;rw[mD 58 _ (by simpa using hl) (by intro x hx c hc;obtain⟨n,_,rfl⟩:=List.mem_map.1 hx;exact(kJ n c hc).1)];exact C5 last l h
def dY:Bs->Bool
 | []=>true
 | [c]=>c != 58
 | c::d::r=>(c != 58||d != 58)&&dY (d::r)
theorem ln:∀(a b:Bs),dY a=true->Lib.index (a++58::58::b) [58,58]=a.length
 | [],b,_=>by rw[List.nil_append,show(58::58::b:Bs)=[58,58]++b from rfl,Fm _ _ (by simp)];rfl
 | [c],b,h=>by
   have hc:c≠58:=by simpa [dY]using h
   show Lib.index (c::([]++58::58::b)) [58,58]=_;rw[lP hc,ln [] b rfl];rfl
 | c::d::r,b,h=>by
   simp only[dY,Bool.and_eq_true,Bool.or_eq_true,bne_iff_ne]at h;have ih:=ln (d::r) b h.2
   have hp:([58,58]:Bs).isPrefixOf (c::d::(r++58::58::b))=false:=by
    rw[Bool.eq_false_iff];intro hh;simp only[List.isPrefixOf,Bool.and_eq_true,beq_iff_eq]at hh;rcases h.1 with h1|h1
    ·exact h1 hh.1.symm
    ·exact h1 hh.2.1.symm
   show Lib.index (c::d::(r++58::58::b)) [58,58]=_;rw[Lib.index,hp];simp only[Bool.false_eq_true,if_false];rw[show(d::(r++58::58::b):Bs)=(d::r)++58::58::b from rfl,ih];rw[if_neg (by simp;omega)]
   simp
theorem jW:∀(a:Bs),dY a=true->Lib.index a [58,58]= -1
 | [],_=>rfl
 | [c],h=>by
   have hc:c≠58:=by simpa [dY]using h
   rw[lP hc];rfl
 | c::d::r,h=>by
   simp only[dY,Bool.and_eq_true,Bool.or_eq_true,bne_iff_ne]at h;have ih:=jW (d::r) h.2
   have hp:([58,58]:Bs).isPrefixOf (c::d::r)=false:=by
    rw[Bool.eq_false_iff];intro hh;simp only[List.isPrefixOf,Bool.and_eq_true,beq_iff_eq]at hh;rcases h.1 with h1|h1
    ·exact h1 hh.1.symm
    ·exact h1 hh.2.1.symm
   rw[Lib.index,hp];simp only[Bool.false_eq_true,if_false];rw[ih];rfl
theorem uy:∀(x b:Bs),(∀c∈x,c≠58)->x≠[]->dY b=true->b.head? ≠some 58->dY (x++b)=true
 | [],_,_,h,_,_=>absurd rfl h
 | [c],[],h,_,_,_=>by simpa [dY]using h c (by simp)
 | [c],d::r,h,_,hb,_=>by
   show dY (c::d::r)=true;rw[dY,hb];simpa using Or.inl (h c (by simp))
 | c::d::r,b,h,_,hb,hh=>by
   show dY (c::d::(r++b))=true;rw[dY,show(d::(r++b):Bs)=(d::r)++b from rfl,uy (d::r) b (fun z hz=>h z (by simp[hz])) (by simp) hb hh];simpa using Or.inl (h c (by simp))
theorem vA:∀(x b:Bs),(∀c∈x,c≠58)->x≠[]->dY b=true->b≠[]->b.head? ≠some 58->dY (x++58::b)=true
 | [],_,_,h,_,_,_=>absurd rfl h
 | [c],[],_,_,_,h,_=>absurd rfl h
 | [c],d::r,h,_,hb,_,hh=>by
   show dY (c::58::d::r)=true;have hd:d≠58:=by simpa using hh
   rw[dY,dY,hb]
   simp[h c (by simp),hd]
 | c::d::r,b,h,_,hb,hn,hh=>by
   show dY (c::d::(r++58::b))=true;rw[dY,show(d::(r++58::b):Bs)=(d::r)++58::b from rfl,vA (d::r) b (fun z hz=>h z (by simp[hz])) (by simp) hb hn hh];simpa using Or.inl (h c (by simp))
theorem xt (l:List Nat):(bj l).head? ≠some 58:=by
 unfold bj
 match l with
 | []=>simp[dv]
 | [n]=>
   show(fd n).head? ≠_;intro h;cases hx:fd n with
   | nil=>rw[hx]at h;cases h
   | cons c r=>rw[hx]at h;exact(kJ n c (by rw[hx];simp)).1 (by simpa using h)
 | n::m::r=>
   show(fd n++[58]++_).head? ≠_;intro h;cases hx:fd n with
   | nil=>exact jS n hx
   | cons c r=>rw[hx]at h;exact(kJ n c (by rw[hx];simp)).1 (by simpa using h)
theorem GJ {l:List Nat} (h:l≠[]):bj l≠[]:=by
 unfold bj;exact qf (by simpa using h) (by intro x hx;obtain⟨n,_,rfl⟩:=List.mem_map.1 hx;exact jS n)
theorem tZ:∀l:List Nat,dY (bj l)=true
 | []=>rfl
 | [n]=>by
   have:=uy (fd n) [] (fun c hc=>(kJ n c hc).1) (jS n) rfl (by simp);rw[List.append_nil]at this;exact this
 | n::m::r=>by
   show dY (fd n++[58]++bj (m::r))=true;rw[List.append_assoc,List.singleton_append];exact vA _ _ (fun c hc=>(kJ n c hc).1) (jS n) (tZ (m::r)) (GJ (by simp)) (xt _)
theorem Nx (l r:List Nat):Lib.cut (bj l++[58,58]++bj r) [58,58]=(bj l,bj r,true):=by
 have h:=ln (bj l) (bj r) (tZ l);unfold Lib.cut;rw[show bj l++[58,58]++bj r=bj l++58::58::bj r by simp,h];rw[if_pos (by omega)]
 simp
theorem L0 (l:List Nat):Lib.cut (bj l) [58,58]=(bj l,[],false):=uE _ _ (jW _ (tZ l))
def Na (a:List Nat) (f:Nat×Nat):Prop:=f=(0,0)\/(f.1+2<=f.2/\f.2<=a.length/\∀k,f.1<=k->k<f.2->a[k]? =some 0)
theorem Kq (l:List Nat):bo l<=l.length/\∀k,k<bo l->l[k]? =some 0:=by
 unfold bo
 induction l with
 | nil=>simp
 | cons x r ih=>
   rw[List.takeWhile_cons];by_cases h:x=0
   ·simp only[h,beq_self_eq_true,if_true,List.length_cons];refine⟨by omega,fun k hk=>?_⟩;cases k with
    | zero=>rfl
    | succ k=>simpa using ih.2 k (by omega)
   ·simp[h]
theorem Vg (a:List Nat):∀(n i:Nat) (f:Nat×Nat),a.length-i=n->Na a f->Na a (fT i (a.drop i) f):=by
 intro n
 induction n with
 | zero=>intro i f hn hf;rw[List.drop_eq_nil_of_le (by omega)];exact hf
 | succ n ih=>
   intro i f hn hf;have hi:i<a.length:=by omega
   have hd:=List.drop_eq_getElem_cons hi;rw[hd,fT,<-hd];refine ih (i+1) _ (by omega) ?_;split
   ·rename_i hm;have hz:=Kq (a.drop i);rw[List.length_drop]at hz;refine Or.inr ⟨by show i+2<=i+bo _;omega,by show i+bo _<=_;omega,fun k h1 h2=>?_⟩;have:=hz.2 (k-i) (by show k-i<bo _;have:k<i+bo (a.drop i):=h2;have:i<=k:=h1;omega);rw[List.getElem?_drop,show i+(k-i)=k by have:i<=k:=h1;omega]at this;exact this
   ·exact hf
theorem GL (a:List Nat):Na a (fT 0 a (0,0)):=by
 have:=Vg a _ 0 (0,0) rfl (Or.inl rfl)
 rwa [List.drop_zero]at this
theorem MJ (a:List Nat) (h8:a.length=8) (hl:∀n∈a,n<65536):iI (ef a)=some a:=by
 unfold ef;have hr:=GL a;generalize fT 0 a (0,0)=f at hr⊢;obtain⟨f,t⟩:=f;by_cases he:f=t
 ·rw[if_pos he];unfold iI;rw[L0]
  have dG:(bj a).isEmpty=false:=by
   rw[List.isEmpty_eq_false_iff];exact GJ (by intro h;rw[h]at h8;cases h8)
  simp only[dG,oL _ a hl,show eM [] true=some []from rfl,List.append_nil,List.length_nil,Nat.add_zero,h8,Lib.hasPrefix]
  simp
 ·rcases hr with hr|⟨h1,h2,h3⟩
  ·exact absurd (by injection hr with a b;rw[a,b]) he
  ·simp only at h1 h2 h3;rw[if_neg (by exact he)];unfold iI;rw[Nx]
   have hp:Lib.hasPrefix (bj (a.drop t)) [58]=false:=by
    rw[Bool.eq_false_iff];intro hh;unfold Lib.hasPrefix at hh;have:=xt (a.drop t);cases hx:bj (a.drop t)with
    | nil=>rw[hx]at hh;cases hh
    | cons c r=>rw[hx]at hh this;simp[List.isPrefixOf]at hh;exact this (by simp[hh])
   simp only[hp,oL _ (a.take f) (fun n hn=>hl n (List.mem_of_mem_take hn)),oL _ (a.drop t) (fun n hn=>hl n (List.mem_of_mem_drop hn))];simp only[Bool.not_true,Bool.false_and,Bool.or_self,Bool.false_eq_true,if_false,if_true,List.length_take,List.length_drop];rw[if_neg (by omega)];congr 1
   apply List.ext_getElem?
   intro k;by_cases hk:k<f
   ·rw[List.append_assoc,List.getElem?_append_left (by simp;omega),List.getElem?_take,if_pos hk]
   ·rw[List.append_assoc,List.getElem?_append_right (by simp;omega)];by_cases hkt:k<t
    ·rw[List.getElem?_append_left (by simp;omega),List.getElem?_replicate,if_pos (by simp;omega),h3 k (by omega) hkt]
    ·rw[List.getElem?_append_right (by simp;omega),List.getElem?_drop];congr 1
     simp;omega
theorem xG {x:Bs} {l:List Nat} (h:fS x=some l):l.length=4/\∀n∈l,n<256:=by
 unfold fS at h;cases hm:(ag 46 x).mapM gz with
 | none=>rw[hm]at h;cases h
 | some m=>
   rw[hm]at h
   have:∀(xs:List Bs) (m:List Nat),xs.mapM gz=some m->∀n∈m,n<256:=by
    intro xs
    induction xs with
    | nil=>intro m h n hn;simp at h;rw[h]at hn;cases hn
    | cons x r ih=>
      intro m h n hn;rw[List.mapM_cons]at h;cases hx:gz x with
      | none=>rw[hx]at h;cases h
      | some v=>
        rw[hx]at h;cases hr:r.mapM gz with
        | none=>rw[hr]at h;cases h
        | some ms=>
          rw[hr]at h;have h:some (v::ms)=some m:=h;injection h with h
          rw[<-h]at hn;rcases List.mem_cons.1 hn with rfl|hn
          ·unfold gz at hx;split at hx
           ·rename_i u hu;have:=Lib.parseUintB_le hu;split at hx
            ·injection hx with hx;omega
            ·cases hx
           ·cases hx
          ·exact ih ms hr n hn
   simp only at h;split at h
   ·injection h with h;rw[<-h];exact⟨by assumption,this _ _ hm⟩
   ·cases h
theorem rh {b:List Nat} (h:b.length=4):∃p q s t,b=[p,q,s,t]:=by
 cases b with
 | nil=>cases h
 | cons p b=>cases b with
   | nil=>cases h
   | cons q b=>cases b with
     | nil=>cases h
     | cons s b=>cases b with
       | nil=>cases h
       | cons t b=>cases b with
         | nil=>exact⟨p,q,s,t,rfl⟩
         | cons _ _=>simp at h
theorem GF (last:Bool):∀(ls:List Bs) (l:List Nat),gL last ls=some l->∀n∈l,n<65536
 | [],l,h,n,hn=>by simp[gL]at h;rw[h]at hn;cases hn
 | x::r,l,h,n,hn=>by
   rw[gL]at h;split at h
   ·cases hb:fS x with
    | none=>rw[hb]at h;cases h
    | some b=>
      rw[hb]at h;obtain⟨h4,aN⟩:=xG hb;obtain⟨p,q,s,t,rfl⟩:=rh h4;simp only[Option.map_some,List.getD_cons_zero,List.getD_cons_succ]at h;injection h with h
      rw[<-h]at hn;have:=aN p (by simp);have:=aN q (by simp);have:=aN s (by simp);have:=aN t (by simp);simp only[List.mem_cons,List.not_mem_nil,or_false]at hn;rcases hn with rfl|rfl<;>omega
   ·cases hp:eD x with
    | none=>rw[hp]at h;cases h
    | some v=>
      rw[hp]at h;simp only at h;cases hr:gL last r with
      | none=>rw[hr]at h;cases h
      | some m=>
        rw[hr]at h;simp only[Option.map_some]at h;injection h with h
        rw[<-h]at hn;rcases List.mem_cons.1 hn with rfl|hn
        ·exact I2 hp
        ·exact GF last r m hr n hn
theorem H9 {s:Bs} {last:Bool} {l:List Nat} (h:eM s last=some l):∀n∈l,n<65536:=by
 unfold eM at h;split at h
 ·injection h with h;rw[<-h];intro n hn;cases hn
 ·exact GF _ _ _ h
theorem oP {s:Bs} {a:List Nat} (h:iI s=some a):a.length=8/\∀n∈a,n<65536:=by
 unfold iI at h;simp only at h;split at h
 ·cases h
 ·split at h
  ·rename_i x y hx hy;have h1:=H9 hx;have h2:=H9 hy;split at h
   ·split at h
    ·cases h
    ·injection h with h
     rw[<-h];refine⟨by simp;omega,fun n hn=>?_⟩;simp only[List.mem_append,List.mem_replicate]at hn;rcases hn with(hn|hn)|hn
     ·exact h1 n hn
     ·omega
     ·exact h2 n hn
   ·split at h
    ·injection h with h
     rw[<-h];refine⟨by simpa using by assumption,fun n hn=>?_⟩;rcases List.mem_append.1 hn with hn|hn
     ·exact h1 n hn
     ·exact h2 n hn
    ·cases h
  ·cases h
theorem LY:∀n:Fin 256,fv (Lib.decDigits n.val)=some n.val:=by decide +kernel
theorem QF {n:Nat} (h:n<256):fv (Lib.decDigits n)=some n:=LY ⟨n,h⟩
theorem pu:∀c:UInt8,aA c=true->c≠46/\c≠58/\c≠37/\low1 c=c/\jM c=false/\eG.contains c=false/\(c<32||126<c)=false:=au (by decide +kernel)
theorem iZ (b:List Nat):∀c∈cu b,aA c=true\/c=46:=by
 intro c hc;unfold cu at hc;rcases yi hc with h|⟨x,hx,h⟩
 ·right;simpa using h
 ·obtain⟨n,_,rfl⟩:=List.mem_map.1 hx;exact Or.inl (ns n c h)
theorem qs {b:List Nat} (hb:b≠[]):ag 46 (cu b)=b.map fun x=>Lib.decDigits x:=by
 unfold cu;exact mD 46 _ (by simpa using hb) (by intro x hx c hc;obtain⟨n,_,rfl⟩:=List.mem_map.1 hx;exact(pu c (ns n c hc)).1)
theorem nU {b:List Nat} (hb:b≠[]):br (cu b)=b.map fun x=>Lib.decDigits x:=by
 unfold br;rw[qs hb,if_neg];rintro⟨_,h⟩;rw[List.getLast?_map]at h;cases hl:b.getLast? with
 | none=>rw[hl]at h;cases h
 | some x=>rw[hl]at h;exact uG x (Option.some.inj h)
theorem ry {b:List Nat} (hb:b≠[]):(b.map fun x=>Lib.decDigits x).getLastD []=Lib.decDigits (b.getLast hb):=by
 rw[List.getLastD_eq_getLast?,List.getLast?_map,List.getLast?_eq_some_getLast hb];rfl
theorem Mz (n:Nat):dj aA (Lib.decDigits n)=true:=by
 unfold dj;rw[Bool.and_eq_true];refine⟨List.all_eq_true.2 fun c hc=>ns n c hc,?_⟩;rw[Bool.not_eq_true',List.isEmpty_eq_false_iff];exact uG n
theorem sG {b:List Nat} (hb:b≠[]):bh (cu b)=true:=by
 unfold bh;rw[nU hb,ry hb,Mz];rfl
theorem Kn (b:List Nat) (n:Nat) (h:b.length<=n) (hn:n=4) (hl:∀x∈b,x<256):dI n (b.map fun x=>Lib.decDigits x)=some b:=by
 subst hn
 induction b with
 | nil=>rfl
 | cons x r ih=>
   have hx:x<256:=hl x (by simp);rw[List.map_cons,dI,QF hx];have hm:(if(r.map fun x=>Lib.decDigits x)=[]then 5-4 else 1)=1:=by split<;>rfl
   simp only[hm];rw[if_neg (by omega),ih (fun y hy=>hl y (List.mem_cons_of_mem _ hy)) (by simp at h;omega)]
   have:(List.range 1).reverse.map (fun k=>x / 256^k%256)=[x]:=by
    show[x / 256^0%256]=[x];rw[Nat.pow_zero,Nat.div_one,Nat.mod_eq_of_lt hx]
   rw[this];rfl
theorem sw {b:List Nat} (h4:b.length=4) (hl:∀x∈b,x<256):dJ (br (cu b))=some (cu b):=by
 have hb:b≠[]:=by intro h;rw[h]at h4;cases h4
 unfold dJ;rw[nU hb,List.length_map,h4,if_neg (by omega),Kn b 4 (by omega) rfl hl];rfl
def fX (many v:Nat):List Nat:=(List.range many).reverse.map fun k=>v / 256^k%256
theorem tu {many v x:Nat} (h:x∈fX many v):x<256:=by
 unfold fX at h;simp only[List.mem_map,List.mem_reverse]at h;obtain⟨k,_,rfl⟩:=h;exact Nat.mod_lt _ (by omega)
theorem pY (many v:Nat):(fX many v).length=many:=by unfold fX;simp
theorem uX (n:Nat) (s:Bs) (r:List Bs):dI n (s::r)=match fv s with
 | none=>none
 | some v=>if 0<v / 256^(if r=[]then 5-n else 1)then none else(dI n r).map fun t=>fX (if r=[]then 5-n else 1) v++t:=rfl
theorem JX {n:Nat} {s:Bs} {r:List Bs} {b:List Nat} (h:dI n (s::r)=some b):∃v t,fv s=some v/\dI n r=some t/\b=fX (if r=[]then 5-n else 1) v++t:=by
 rw[uX]at h;cases hv:fv s with
 | none=>rw[hv]at h;cases h
 | some v=>
   rw[hv]at h;simp only at h;generalize (if r=[]then 5-n else 1)=m at h⊢;by_cases h0:0<v / 256^m
   ·rw[if_pos h0]at h;cases h
   ·rw[if_neg h0]at h;cases hr:dI n r with
    | none=>rw[hr]at h;cases h
    | some t=>
      rw[hr]at h;exact⟨v,t,rfl,rfl,(Option.some.inj h).symm⟩
theorem xM:∀(l:List Bs) (n:Nat) (b:List Nat),l≠[]->l.length<=n->n<=4->dI n l=some b->b.length=l.length+(4-n)/\∀x∈b,x<256
 | [],n,b,h,_,_,_=>absurd rfl h
 | s::r,n,b,_,hl,hn,h=>by
   obtain⟨v,t,hv,hr,rfl⟩:=JX h;simp only[List.length_cons]at hl⊢;rw[List.length_append,pY];by_cases K5:r=[]
   ·rw[K5,dI]at hr;injection hr with hr
    rw[K5,if_pos rfl,<-hr];refine⟨by simp;omega,fun x hx=>?_⟩;rw[List.append_nil]at hx;exact tu hx
   ·rw[if_neg K5];obtain⟨h1,h2⟩:=xM r n t K5 (by omega) hn hr;refine⟨by omega,fun x hx=>?_⟩;rcases List.mem_append.1 hx with hx|hx
    ·exact tu hx
    ·exact h2 x hx
theorem Ag {l:List Bs} {t:Bs} (hl:l≠[]) (h:dJ l=some t):∃b:List Nat,b.length=4/\(∀x∈b,x<256)/\t=cu b:=by
 unfold dJ at h;split at h
 ·cases h
 ·cases hb:dI l.length l with
  | none=>rw[hb]at h;cases h
  | some b=>
    rw[hb]at h;injection h with h
    obtain⟨h1,h2⟩:=xM l l.length b hl (Nat.le_refl _) (by omega) hb;exact⟨b,by omega,h2,h.symm⟩
theorem qQ (s:Bs):br s≠[]:=by
 have dG:ag 46 s≠[]:=by
  cases s with
  | nil=>simp[ag]
  | cons b r=>
    rw[ag];split
    ·simp
    ·split<;>simp
 unfold br;split
 ·rename_i h;intro h2;have:=congrArg List.length h2
  simp at this;omega
 ·exact dG
theorem FA {c:UInt8} (h:c≠37) (r:Bs):bU (c::r)=none:=by
 unfold bU;split
 ·rename_i heq;injection heq with h1 _
  exact absurd h1 h
 ·rfl
theorem Be {c:UInt8} {r:Bs} {x:Bs} (h:bU (c::r)=none) (hx:an r=x):an (c::r)=c::x:=by
 rw[an,h];simp[hx]
theorem r9:∀l:Bs,(∀c∈l,c≠37)->an l=l
 | [],_=>by rw[an]
 | c::r,h=>Be (FA (h c (by simp)) r) (r9 r fun x hx=>h x (by simp[hx]))
theorem Bf (of:Bs) (l:Bs) (h:∀c∈l,(c<32||126<c||of.contains c)=false):ah of l=l:=by
 unfold ah
 induction l with
 | nil=>rfl
 | cons c r ih=>rw[List.flatMap_cons,h c (by simp),ih fun x hx=>h x (by simp[hx])];rfl
theorem B7 (l:Bs) (h:∀c∈l,low1 c=c):low l=l:=by
 unfold low
 induction l with
 | nil=>rfl
 | cons c r ih=>rw[List.map_cons,h c (by simp),ih fun x hx=>h x (by simp[hx])]
def ND (d:Bs):Prop:=d≠[]/\d.any jM=false/\low d=d/\(bh d=false\/dJ (br d)=some d)
theorem tF:∀c:UInt8,jM c=false->c≠37/\c≠91/\eG.contains c=false/\(c<32||126<c)=false:=au (by decide +kernel)
theorem Jg {p:UInt8->Bool} {l:Bs} (h:l.any p=false):∀c∈l,p c=false:=by
 intro c hc;rw[List.any_eq_false]at h;simpa using h c hc
theorem rp {d:Bs} (h:ND d) (dk:Bool):aD d dk=.ok d:=by
 obtain⟨h1,h2,h3,h4⟩:=h;have hc:=Jg h2
 have vS:d[0]? ≠some 91:=by
  intro h;have:=List.mem_of_getElem? h;exact(tF 91 (hc 91 this)).2.1 rfl
 unfold aD;rw[if_neg vS];cases dk
 ·have hb:d.any eG.contains=false:=by
   rw[List.any_eq_false];intro c DK;have:=(tF c (hc c DK)).2.2.1;rw[this];simp
  rw[if_neg (by simp),hb,if_neg (by simp),Bf];intro c DK;have:=(tF c (hc c DK)).2.2.2;rw[this];rfl
 ·rw[if_pos rfl];unfold eC;rw[r9 d fun c DK=>(tF c (hc c DK)).1];simp only[h3];rw[if_neg (by rw[h2];simp[h1])];rcases h4 with h4|h4
  ·rw[h4];rfl
  ·cases hn:bh d
   ·rfl
   ·rw[h4];rfl
theorem LI {s d:Bs} (h:eC s=.ok d):ND d:=by
 unfold eC at h;simp only at h;generalize hx:low (an s)=x at h;split at h
 ·cases h
 ·rename_i hn;have oX:x≠[]:=fun e=>hn (Or.inl e);have sR:x.any jM=false:=by rw[<-Bool.not_eq_true];exact fun e=>hn (Or.inr e)
  split at h
  ·cases hf:dJ (br x)with
   | none=>rw[hf]at h;cases h
   | some t=>
     rw[hf]at h;simp only[ofO]at h;injection h with h
     rw[<-h];obtain⟨b,h4,hl,rfl⟩:=Ag (qQ x) hf;have hb:b≠[]:=by intro h;rw[h]at h4;cases h4
     refine⟨?_,?_,?_,Or.inr (sw h4 hl)⟩
     ·unfold cu;exact qf (by simpa using hb) (by intro x hx;obtain⟨n,_,rfl⟩:=List.mem_map.1 hx;exact uG n)
     ·rw[List.any_eq_false];intro c hc;rcases iZ b c hc with h|rfl
      ·rw[(pu c h).2.2.2.2.1];simp
      ·decide
     ·apply B7
      intro c hc;rcases iZ b c hc with h|rfl
      ·exact(pu c h).2.2.2.1
      ·decide
  ·rename_i ZH;injection h with h
   rw[<-h];exact⟨oX,sR,by rw[<-hx,yW],Or.inl (by simpa using ZH)⟩
theorem CZ (a:List Nat) (h8:a.length=8) (hl:∀n∈a,n<65536) (dk:Bool):aD ([91]++ef a++[93]) dk=.ok ([91]++ef a++[93]):=by
 unfold aD;rw[if_pos (by simp)]
 have h1:¬(([91]++ef a++[93]:Bs).length<2\/([91]++ef a++[93]:Bs).getLast? ≠some 93):=by
  rw[List.getLast?_append];simp
 rw[if_neg h1];have h2:(([91]++ef a++[93]:Bs).drop 1).dropLast=ef a:=by simp
 rw[h2,MJ a h8 hl];rfl
theorem sN {s h:Bs} (e:aD s true=.ok h):aD h true=.ok h/\aD h false=.ok h/\h≠[]:=by
 unfold aD at e;split at e
 ·split at e
  ·cases e
  ·cases ha:iI ((s.drop 1).dropLast)with
   | none=>rw[ha]at e;cases e
   | some a=>
     rw[ha]at e;simp only[Option.map_some,ofO]at e;injection e with e
     rw[<-e];obtain⟨h8,hl⟩:=oP ha;exact⟨CZ a h8 hl true,CZ a h8 hl false,by simp⟩
 ·rw[if_pos rfl]at e;have:=LI e;exact⟨rp this true,rp this false,this.1⟩
theorem iv (s:Bs) (n:Nat) (e:aD s true=.er n):n=70\/n=71\/n=72:=by
 unfold aD eC ofO at e;simp only at e
 repeat' split at e
 all_goals first |(injection e with e;omega)|cases e|(rename_i h;cases h)
theorem jC (s:Bs) (n:Nat) (e:aD s false=.er n):n=70\/n=72:=by
 unfold aD ofO at e
 repeat' split at e
 all_goals first |(injection e with e;omega)|cases e|(rename_i h;cases h)
def iR (b n:Nat):Bs:=if _h:n<b\/b<2 then[g6 n]else iR b (n / b)++[g6 (n%b)]
 termination_by n
 decreasing_by exact Nat.div_lt_self (by omega) (by omega)
theorem sk {b n:Nat} (h:n<b):iR b n=[g6 n]:=by rw[iR,dif_pos (Or.inl h)]
theorem xm {b n:Nat} (hb:2<=b) (h:¬n<b):iR b n=iR b (n / b)++[g6 (n%b)]:=by rw[iR,dif_neg (by omega)]
theorem xS (n:Nat):iR 16 n=fd n:=by
 induction n using Nat.strongRecOn with
 | ind n ih=>
   by_cases h:n<16
   ·rw[sk h,jH h]
   ·rw[xm (by omega) h,pO h,ih (n / 16) (by omega)]
def ipP (s:Bs):Bool:=match aD s true with
 | .ok h=>h==s&&(s[0]? ==some 91||bh s)
 | .er _=>false
end Lz
namespace Lz
theorem Un (x:Nat):x&&& 15=x%16:=Nat.and_two_pow_sub_one_eq_mod x 4
end Lz
namespace Go.Proofs.YtlcbhacofagedaaGreatDoor
open Go.RowKit
theorem Qv (w:World):Calls Tryz.prog 229 #[.int .i64 16] w fun e w'=>e=.returned (.bool true)/\w=w':=by
 go_enter Tryz.func229,Tryz.ntmps229
 go_wp2
 go_ret;exact⟨rfl,rfl⟩
theorem Q8:IntKind.u64.wrap (bits BinOp.and IntKind.u64 16 (IntKind.u64.wrap (-16))*285870213051353865) / 288230376151711744=15:=by decide +kernel
theorem Qj (w:World) (h:w.cell? ⟨8,15,none⟩=some (.int .u8 4)):Calls Tryz.prog 257 #[.int .u64 16] w fun e w'=>e=.returned (.int .i64 4)/\w=w':=by
 have hx:=Q8;go_enter Tryz.func257,Tryz.ntmps257
 go_wp2
 go_ret;exact⟨rfl,rfl⟩
theorem XQ (w:World) (h:w.cell? ⟨8,15,none⟩=some (.int .u8 4)):Calls Tryz.prog 230 #[.int .u64 16] w fun e w'=>e=.returned (.int .i64 4)/\w=w':=by
 go_enter Tryz.func230,Tryz.ntmps230
 go_wp2_with fail
 refine(Qj _ h).mono ?_;rintro e w' ⟨rfl,rfl⟩
 go_wp2
 go_ret;exact⟨rfl,rfl⟩
def aay (l:List UInt8) (w:World) (e:Ending) (w':World):Prop:=∃(u:ByteArray) (v:Value),e=.returned (.tuple #[v,.string u])/\Hid (u.data.toList=l)/\Below w.heap.size w w'
theorem Vy:Tryz.zeroCells221=((List.replicate 65 (0:UInt8)).map fun c=>Value.int .u8 (c.toNat:Int)).toArray:=by kernel_rfl
theorem wO (w:World) (l:List UInt8) (T:TypeId):jY (w.alloc (.cells (l.map fun c=>Value.int .u8 (c.toNat:Int)).toArray T)) w.heap.size l:=by
 intro j c h;refine⟨?_,?_⟩
 ·rw[World.cell?_alloc_mark];simp[h]
 ·simp
theorem Qg (b:Nat) (hb:8<=b) (u m n:Nat) (hu:b<=u) (h:u*b^m<=n) (hn:n<=1099511627776):m+1<=13:=by
 rcases Nat.lt_or_ge m 13 with h1|h1
 ·omega
 ·exfalso
  have h2:8^13<=b^m:=Nat.le_trans (Nat.pow_le_pow_left hb 13) (Nat.pow_le_pow_right (by omega) h1);have h3:8*8^13<=u*b^m:=Nat.mul_le_mul (by omega) h2;omega
theorem XP:∀d:Fin 16,(⟨#[48,49,50,51,52,53,54,55,56,57,97,98,99,100,101,102,103,104,105,106,107,108,109,110,111,112,113,114,115,116,117,118,119,120,121,122]⟩:ByteArray)[d.val]'(Nat.lt_trans d.isLt (by decide))=Lz.g6 d.val:=by decide +kernel
theorem Ya (d:Nat) (h:d<16) {h':d<(⟨#[48,49,50,51,52,53,54,55,56,57,97,98,99,100,101,102,103,104,105,106,107,108,109,110,111,112,113,114,115,116,117,118,119,120,121,122]⟩:ByteArray).size}:(⟨#[48,49,50,51,52,53,54,55,56,57,97,98,99,100,101,102,103,104,105,106,107,108,109,110,111,112,113,114,115,116,117,118,119,120,121,122]⟩:ByteArray)[d]'(h')=Lz.g6 d:=XP ⟨d,h⟩
theorem uW (n:Nat) (hn:n<=1099511627776) (w:World) (h:w.cell? ⟨8,15,none⟩=some (.int .u8 4)):Calls Tryz.prog 192 #[.slice none 0 0,.int .u64 n,.int .i64 16,.bool false,.bool false] w (aay (Lz.iR 16 n) w):=by
 have vJ:=wO w (List.replicate 65 0) 221;rw[<-Vy]at vJ;have ek:Below w.heap.size w (w.alloc (.cells Tryz.zeroCells221 221)):=(Below.refl _ w).alloc (Nat.le_refl _) _
 have h':(w.alloc (.cells Tryz.zeroCells221 221)).cell? ⟨8,15,none⟩=some (.int .u8 4):=by
  rw[World.cell?_alloc_lt _ _ ⟨8,15,none⟩ (World.block_lt_of_cell? _ _ h)];exact h
 have Hm:=Ih vJ;have H0:=Ih ek;have Ht:=Ih h';have HN:=Ih hn;clear vJ ek h' h;go_enter Tryz.func192,Tryz.ntmps192
 go_wp2_with fail
 refine(Qv _).mono ?_;rintro e w' ⟨rfl,rfl⟩
 go_wp2_with fail
 refine(XQ _ Ht.out).mono ?_;rintro e w' ⟨rfl,rfl⟩;have OI:=Hm.out;have rB:=H0.out;generalize w.alloc (.cells Tryz.zeroCells221 221)=wx at OI rB⊢;clear Hm H0 Ht
 go_wp2_with fail
 go_loopw [1,13] (fun a i wr=>∃(u:Nat) (D L:List UInt8),D.length<=13/\u<=1099511627776/\a=.int .u64 u/\i=.int .i64 ((65-D.length:Nat):Int)/\jY wr w.heap.size L/\Hid (L.length=65)/\Hid (L.drop (65-D.length)=D)/\Hid (Lz.iR 16 n=Lz.iR 16 u++D)/\Hid (u*16^D.length<=n)/\Below w.heap.size w wr) (fun a _ _=>(intOf a).toNat)
 case atStart=>exact⟨n,[],List.replicate 65 0,by simp,HN.out,rfl,rfl,OI,Ih (by simp),Ih (by simp),Ih (by simp),Ih (by simp),rB⟩
 case round=>
  clear OI rB;obtain⟨u,D,L,hD,hu,rfl,rfl,bN,hL,hLD,hE,ow,hb⟩:=hrel;obtain⟨i,hi⟩:∃i:Nat,i=64-D.length:=⟨_,rfl⟩;have Lj:65-D.length=i+1:=by omega
  have Zn:i<65:=by omega
  rw[Lj];have Y3:Hid (L.drop (i+1)=D):=by show _=_;have:=hLD.out;rw[Lj]at this;exact this
  obtain⟨c0,np⟩:∃c,L[i]? =some c:=⟨_,List.getElem?_eq_getElem (by rw[hL.out];exact Zn)⟩;obtain⟨j7,qH⟩:=bN i c0 np;have hi3:((i+1:Nat):Int)-1=i:=by omega
  have hi4:(0:Int)<=i:=by omega
  have hi5:(i:Int)<65:=by omega
  have lL:∀c:UInt8,jY (wr.setCell ⟨w.heap.size,i,none⟩ (.int .u8 (c.toNat:Int))) w.heap.size (L.set i c)/\(L.set i c).length=65/\(L.set i c).drop i=c::D:=fun c=>by
   refine⟨bN.set i c,by rw[List.length_set];exact hL.out,?_⟩;rw[List.drop_eq_getElem_cons (by rw[List.length_set,hL.out];exact Zn),List.getElem_set_self,List.drop_set_of_lt (by omega),Y3.out]
  have rD:=Ih lL;have Hi:=Ih hi;clear lL Lj hLD Y3 np bN hL hi;by_cases W6:u<16
  ·have hul:(u:Int)<16:=by omega
   have Ak:Hid (Lz.iR 16 n=Lz.g6 u::D):=by
    show _=_;rw[hE.out,Lz.sk W6];rfl
   clear hE ow
   go_upto_region 25 with fail
   rw[Ya u (by omega)];obtain⟨r1,r2,r3⟩:=rD.out (Lz.g6 u);have aU:=hb.setCell (Nat.le_refl _) (p:=⟨w.heap.size,i,none⟩) (.int .u8 ((Lz.g6 u).toNat:Int));generalize wr.setCell ⟨w.heap.size,i,none⟩ (.int .u8 ((Lz.g6 u).toNat:Int))=w2 at r1 aU⊢;have jQ:Tryz.prog.arrayLen 221=65:=by simp[Program.arrayLen,Tryz.underlying221]
   have F1:∀W,(Instr.sliceAt 221 (.pointer (some ⟨w.heap.size,0,none⟩)) (some (.int .i64 (i:Int))) none none).run Tryz.prog W=.ok (.slice (some ⟨w.heap.size,i,none⟩) (65-i) (65-i)) W:=fun W=>by
    rw[run_sliceAt_array_l W 221 ⟨w.heap.size,0,none⟩ (by simp[Program.arrayLen,Program.elem,Tryz.underlying221]) .i64 (i:Int) (by omega) (by rw[jQ];omega)];go_simp;intro h;omega
   have sV:∀W,W=w2->(convert 63 9 (.slice (some ⟨w.heap.size,i,none⟩) (65-i) (65-i))).run Tryz.prog W=.ok (.string ⟨(Lz.g6 u::D).toArray⟩) W:=by
    rintro W rfl
    have hc:=run_convert_bytes_back (P:=Tryz.prog) W 63 9 5 ⟨w.heap.size,i,none⟩ (65-i) (Lz.g6 u::D) Tryz.underlying63 Tryz.underlying5 Tryz.underlying9 (by
     intro j hj;have hg:((L.set i (Lz.g6 u)).drop i)[j]? =some (Lz.g6 u::D)[j]:=by rw[r3];exact List.getElem?_eq_getElem hj
     rw[List.getElem?_drop]at hg;have:=(r1 (i+j) _ hg).1;rw[show(⟨w.heap.size,i,none⟩:Addr).add j=⟨w.heap.size,i+j,none⟩ by simp[Addr.add]];exact this)
    rw[show(Lz.g6 u::D).length=65-i by rw[List.length_cons,Hi.out];omega]at hc;exact hc
   have aan:=sV w2 rfl;clear jQ sV r1 r3 rD j7 qH
   go_wp2
   go_ret2
   exact⟨_,_,rfl,Ih (by rw[Ak.out]),aU⟩
  ·have hug:(16:Int)<=(u:Int):=by omega
   have hd:=Lz.xm (b:=16) (n:=u) (by omega) W6
   have Ak:Hid (Lz.iR 16 n=Lz.iR 16 (u / 16)++(Lz.g6 (u%16)::D)):=by
    show _=_;rw[hE.out,hd];simp
   have aaj:Hid (u / 16*16^(Lz.g6 (u%16)::D).length<=n):=by
    show _<=_;refine Nat.le_trans ?_ ow.out;rw[List.length_cons,Nat.pow_succ,Nat.mul_comm (16^_) 16,<-Nat.mul_assoc];exact Nat.mul_le_mul_right _ (Nat.div_mul_le_self u 16)
   have yF:D.length+1<=13:=Qg 16 (by omega) u D.length n (by omega) ow.out HN.out;have Zg:bits .and .u64 (u:Int) 15=((u%16:Nat):Int):=by rw[show(15:Int)=((15:Nat):Int)from rfl,u64_and_nat _ _ (by omega) (by omega),Lz.Un]
   have Z5:u%16<16:=by omega
   generalize u%16=d at Zg Z5 Ak aaj;clear hd hE ow
   go_wp2_with fail
   rw[Ya d Z5]
   go_roundw
   case rel=>
    obtain⟨r1,r2,r3⟩:=rD.out (Lz.g6 d);exact⟨u / 16,Lz.g6 d::D,L.set i (Lz.g6 d),by simpa using yF,by omega,by go_num,by rw[List.length_cons,Hi.out];congr 2;omega,r1,r2,Ih (by rw[List.length_cons,show 65-(D.length+1)=i by rw[Hi.out];omega];exact r3),Ak,aaj,hb.setCell (Nat.le_refl _) _⟩
   case measure=>simp[intOf];omega
theorem uV (n:Nat) (hn:n<=1099511627776) (w:World) (h:w.cell? ⟨8,15,none⟩=some (.int .u8 4)):Calls Tryz.prog 294 #[.int .u64 n,.int .i64 16] w (gl (Lz.iR 16 n) w):=by
 have cF:=Ih (uW n hn w h);go_enter Tryz.func294,Tryz.ntmps294
 go_wp2_with fail
 refine(cF.out).mono ?_;rintro e w1 ⟨u,v,rfl,hu,hb⟩
 go_wp2
 go_ret;exact⟨u,rfl,hu,hb⟩
theorem wN (n:Nat) (hn:n<=1099511627776) (w:World) (h:w.cell? ⟨8,15,none⟩=some (.int .u8 4)):Calls Tryz.prog 280 #[.int .u64 n,.int .i64 16] w (gl (Lz.iR 16 n) w):=by
 have cF:=Ih (uV n hn w h);go_enter Tryz.func280,Tryz.ntmps280
 go_wp2_with fail
 refine(cF.out).mono ?_;rintro e w1 ⟨u,rfl,hu,hb⟩
 go_wp2
 go_ret;exact⟨u,rfl,hu,hb⟩
end Go.Proofs.YtlcbhacofagedaaGreatDoor
namespace Go.Proofs
open Go.Shelf
open Go.RowKit in
theorem Tryz.strings_Join_none (a:Option Addr) (c:Nat) (sep:ByteArray) (w:World):
 Calls Tryz.prog 112 #[.slice a 0 c,.string sep] w fun e w'=>e=.returned (.string ⟨#[]⟩)/\w'=w:=Any.strings_Join_none Tryz.lays156 Tryz.Builder_Extra_156 a c sep w
def Tryz.lays119_ren:Go.Shelf.Ren:=⟨fun|119=>252|n=>n,fun|21=>21|4=>4|n=>n,fun|n=>n⟩
theorem Tryz.lays119:Go.Proofs.Lays.n119 Tryz.prog Tryz.lays119_ren:=by repeat' first |kernel_rfl|(intro w;rfl)|(intro w;kernel_rfl)|decide|constructor
theorem Tryz.utf8_ValidRune (r:Int) (w:World):
 Calls Tryz.prog 252 #[.int .i32 r] w fun e w'=>e=.returned (.bool (Lib.validRune r))/\w'=w:=Any.utf8_ValidRune Tryz.lays119 r w
end Go.Proofs
namespace Lz
open Go
theorem tD (s:ByteArray) (pos:Nat) (h:pos<s.size) (hb:128<=(s[pos]'h).toNat):128<=(Utf8.decode s pos).1:=by
 rw[Lib.decode_at]
 have h0:(s.get! pos).toNat=(s[pos]'h).toNat:=by
  congr 1;show s.data[pos]! =_;rw[getElem!_pos s.data pos h];rfl
 rcases Lib.decodeN_shape (s.size-pos) (s.get! pos).toNat (s.get! (pos+1)).toNat (s.get! (pos+2)).toNat (s.get! (pos+3)).toNat with⟨h1,_⟩|⟨_,_,_,h2,h3⟩|⟨_,_,_,_,h2,_,h3⟩|⟨_,_,_,_,_,h2,_,h3⟩|h3
 ·omega
 ·rw[h3];exact h2
 ·rw[h3];show 128<=_;omega
 ·rw[h3];show 128<=_;omega
 ·rw[h3];show 128<=65533;omega
theorem Ab {p:Nat->Bool} {q:UInt8->Bool} (hp:∀x,128<=x->p x=true) (hq:∀c:UInt8,c.toNat<128->p c.toNat=q c) (bV:∀c:UInt8,128<=c.toNat->q c=true) (s:ByteArray):
  ∀(f pos:Nat),s.size<=pos+f->decide (0<=Lib.idxFuncFrom p true s f pos)=(s.data.toList.drop pos).any q
 | 0,pos,h=>by
   rw[List.drop_eq_nil_of_le (by show s.size<=pos;omega)];rfl
 | f+1,pos,h=>by
   rw[Lib.idxFuncFrom];by_cases lV:pos<s.size
   ·rw[if_pos lV]
    have hd:s.data.toList.drop pos=s[pos]::s.data.toList.drop (pos+1):=by
     rw[List.drop_eq_getElem_cons (show pos<s.data.toList.length from lV)];rfl
    rw[hd,List.any_cons];rcases Nat.lt_or_ge (s[pos]'lV).toNat 128 with h1|h1
    ·have abC:=decode_ascii s pos lV h1;rw[abC,hq _ h1];cases hqc:q s[pos]with
     | true=>simp
     | false=>
       simp only[Bool.false_eq_true,if_false,Bool.false_or];exact Ab hp hq bV s f (pos+1) (by omega)
    ·rw[hp _ (tD s pos lV h1),bV _ h1]
     simp
   ·rw[if_neg lV,List.drop_eq_nil_of_le (by show s.size<=pos;omega)];rfl
theorem uc (l jJ:Bs):Lib.containsAny l jJ=l.any jJ.contains:=by
 unfold Lib.containsAny
 induction l with
 | nil=>rfl
 | cons b r ih=>
   have o6:=Lib.indexAny_ge jJ r;rw[Lib.indexAny,List.any_cons,<-ih];by_cases h:jJ.contains b=true
   ·rw[if_pos h,h];simp
   ·rw[if_neg h];have h2:jJ.contains b=false:=by simpa using h
    rw[h2,Bool.false_or,Bool.eq_iff_iff,decide_eq_true_eq,decide_eq_true_eq];by_cases h3:Lib.indexAny r jJ= -1
    ·rw[h3];simp
    ·rw[if_neg (by simpa using h3)];omega
end Lz
namespace Go.Proofs.YtlcbhacofagedaaGreatDoor
open Go.RowKit
theorem Ul (a:Option Addr) (c:Nat) (sep:ByteArray) (w:World):Calls Tryz.prog 112 #[.slice a 0 c,.string sep] w (gl [] w):=by
 refine(Tryz.strings_Join_none a c sep w).mono ?_;rintro e w' ⟨h1,rfl⟩;exact⟨_,h1,Ih rfl,Below.refl _ _⟩
theorem C7 (s p:ByteArray) (hs:s.size<=1073741824) (w:World) (hE:de w):Calls Tryz.prog 80 #[.string s,.string p] w (pq (Lib.cut s.data.toList p.data.toList).1 (Lib.cut s.data.toList p.data.toList).2.1 (Lib.cut s.data.toList p.data.toList).2.2 w):=by
 obtain⟨m,hm⟩:=hE.ml;exact(Tryz.strings_Cut s p m w (by omega) hm).mono fun _ _ ⟨he,n,hw⟩=>⟨_,_,he,rfl,rfl,by rw[hw];exact below_drewN (Below.refl _ _) n⟩
def wJ (x:Nat):Bool:=if x<128 then Lz.jM (UInt8.ofNat x)else true
def lh:ByteArray:=⟨#[0,9,10,13,32,35,47,58,60,62,63,64,91,92,93,94,124]⟩
theorem Jn:∀x:Fin 128,32<x.val->x.val<127->x.val≠37->decide (0<=Lib.indexByte lh.data.toList x.val.toUInt8)=Lz.jM (UInt8.ofNat x.val):=by decide +kernel
theorem U7:∀x:Fin 128,(x.val<=32\/127<=x.val\/x.val=37)->Lz.jM (UInt8.ofNat x.val)=true:=by decide +kernel
theorem Nn (x:Nat) (hx:x<=1114111) (w:World):Calls Tryz.prog 266 #[.int .i32 (x:Int)] w fun e w'=>e=.returned (.bool (wJ x))/\Below w.heap.size w w':=by
 by_cases h:x<=32\/127<=x\/x=37
 ·have hp:wJ x=true:=by
   unfold wJ;split
   ·exact U7 ⟨x,by assumption⟩ h
   ·rfl
  rw[hp];rcases Nat.lt_or_ge 32 x with h1|h1
  ·have An:¬(x:Int)<=32:=by omega
   have h1b:decide ((x:Int)<=32)=false:=decide_eq_false An;rcases Nat.lt_or_ge x 127 with h2|h2
   ·have h3:x=37:=by omega
    have Ip:decide (127<=(x:Int))=false:=decide_eq_false (by omega);have h3b:((x:Int)==37)=true:=by rw[h3];rfl
    have F6:¬127<=(x:Int):=by omega
    clear h h3 hp;go_enter Tryz.func266,Tryz.ntmps266
    go_wp2
    go_ret;exact⟨rfl,Below.refl _ _⟩
   ·have Ip:decide (127<=(x:Int))=true:=decide_eq_true (by omega);have F6:127<=(x:Int):=by omega
    clear h hp;go_enter Tryz.func266,Tryz.ntmps266
    go_wp2
    go_ret;exact⟨rfl,Below.refl _ _⟩
  ·have An:(x:Int)<=32:=by omega
   have h1b:decide ((x:Int)<=32)=true:=decide_eq_true An;clear h hp;go_enter Tryz.func266,Tryz.ntmps266
   go_wp2
   go_ret;exact⟨rfl,Below.refl _ _⟩
 ·have hp:wJ x=decide (0<=Lib.indexByte lh.data.toList x.toUInt8):=by
   unfold wJ;rw[if_pos (by omega)];exact(Jn ⟨x,by omega⟩ (by show 32<x;omega) (by show x<127;omega) (by show x≠37;omega)).symm
  have cC:=Tryz.strings_ContainsRune_ascii lh (x:Int) w (by omega) (by omega);rw[show((x:Int)).toNat=x by omega,<-hp]at cC;have CC:=Ih cC;have An:¬(x:Int)<=32:=by omega
  have h1b:decide ((x:Int)<=32)=false:=decide_eq_false An;have F6:¬127<=(x:Int):=by omega
  have Ip:decide (127<=(x:Int))=false:=decide_eq_false F6;have h3b:((x:Int)==37)=false:=beq_eq_false_iff_ne.2 (by omega);clear h hp cC;go_enter Tryz.func266,Tryz.ntmps266
  go_wp2_with fail
  refine(CC.out).mono ?_;rintro e w' ⟨rfl,rfl⟩
  go_wp2
  go_ret;exact⟨rfl,Below.refl _ _⟩
theorem PW (x:Nat) (h:128<=x):wJ x=true:=by unfold wJ;rw[if_neg (by omega)]
theorem Qe (c:UInt8) (h:c.toNat<128):wJ c.toNat=Lz.jM c:=by unfold wJ;rw[if_pos h];simp
theorem T8:∀c:UInt8,128<=c.toNat->Lz.jM c=true:=Lz.au (by decide +kernel)
theorem QX (args:Array Value) (w:World):(callFunc 266 args).run Tryz.prog w=.ok (.enter 266 args) w:=enters_of Tryz.func266 (by kernel_rfl) rfl args w
theorem wI (s:ByteArray) (w:World):Calls Tryz.prog 167 #[.string s,.func (.func 266) #[] #[]] w fun e w'=>∃i:Int,e=.returned (.int .i64 i)/\Hid (decide (0<=i)=s.data.toList.any Lz.jM)/\Below w.heap.size w w':=by
 refine(Tryz.strings_IndexFunc_grows 266 #[] QX wJ s w (fun W x hx _=>Nn x hx W)).mono ?_;rintro e w' ⟨he,hb⟩;refine⟨_,he,Ih ?_,hb⟩;have:=Lz.Ab PW Qe T8 s s.size 0 (by omega);rw[List.drop_zero]at this;exact this
end Go.Proofs.YtlcbhacofagedaaGreatDoor
