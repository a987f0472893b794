/-
  What the library's functions that package hosts calls besides return: IndexFunc at the predicate of a domain's bytes, Join of nothing, Cut, ContainsAny.
-/
import Derived.Test.YtecoeebjaleeiaaGreatDoorJ08
import Derived.Test.YtecoeebjaleeiaaGreatDoorJ07
import Derived.StillTailTactics
import Derived.Shelf.Strings.SlTrimAscii
import Derived.Lib.MapLaws
set_option maxHeartbeats 1000000
set_option maxRecDepth 100000
namespace Go.Proofs
open Go.Shelf
def Tryz.lays156_ren:Go.Shelf.Ren:=⟨fun|156=>232|165=>206|166=>28|169=>30|240=>66|241=>249|276=>108|277=>277|n=>n,fun|31=>30|9=>9|3=>3|4=>4|0=>0|20=>20|72=>77|76=>78|70=>74|37=>75|75=>54|127=>115|164=>160|5=>5|80=>80|n=>n,fun|n=>n⟩
theorem Tryz.lays156:Go.Proofs.Lays.n156 Tryz.prog Tryz.lays156_ren:=by repeat' first |kernel_rfl|(intro w;rfl)|(intro w;kernel_rfl)|decide|constructor
theorem Tryz.Builder_Extra_156:Builder.Extra Tryz.prog Tryz.lays156_ren:=by repeat' first |kernel_rfl|(intro w;rfl)|(intro w;kernel_rfl)|decide|constructor
open Go.RowKit in
theorem Tryz.strings_Join (bk o c:Nat) (xs:List ByteArray) (sep:ByteArray) (w:World) (aA:∀(j:Nat) x,xs[j]? =some x->w.cell? ⟨bk,o+j,none⟩=some (.string x)) (Cv:bk<w.heap.size) (hN:xs.length<=140737488355328) (iW:xs.length<=c) (ba:(Lib.join (xs.map (·.data.toList)) sep.data.toList).length<=140737488355328):
 Calls Tryz.prog 232 #[.slice (some ⟨bk,o,none⟩) xs.length c,.string sep] w fun e w'=>e=.returned (.string ⟨(Lib.join (xs.map (·.data.toList)) sep.data.toList).toArray⟩)/\Below w.heap.size w w':=Any.strings_Join Tryz.lays156 Tryz.Builder_Extra_156 bk o c xs sep w aA Cv hN iW ba
def Tryz.lays160_ren:Go.Shelf.Ren:=⟨fun|160=>274|232=>278|231=>102|227=>103|234=>279|233=>104|236=>280|235=>105|228=>139|271=>159|151=>91|197=>122|120=>195|152=>132|260=>157|137=>64|119=>166|224=>125|225=>124|217=>107|266=>141|n=>n,fun|9=>9|4=>4|3=>3|5=>5|117=>155|116=>154|0=>0|124=>158|21=>21|105=>182|46=>113|119=>210|139=>248|138=>247|n=>n,fun|3=>5|4=>6|n=>n⟩
theorem Tryz.lays160:Go.Proofs.Lays.n160 Tryz.prog Tryz.lays160_ren:=by repeat' first |kernel_rfl|(intro w;rfl)|(intro w;kernel_rfl)|decide|constructor
def Tryz.laysPu14_ren:Go.Shelf.Ren:=⟨fun|14=>284|16=>291|17=>282|19=>294|20=>295|21=>287|22=>288|23=>289|24=>290|25=>292|27=>67|26=>293|28=>109|29=>142|30=>172|31=>173|32=>174|33=>175|35=>208|34=>207|36=>209|37=>210|38=>211|39=>250|40=>251|n=>n,fun|9=>9|3=>3|22=>222|24=>54|25=>329|4=>4|34=>338|5=>5|36=>113|37=>75|0=>0|39=>341|21=>21|44=>345|47=>115|50=>348|48=>346|2=>2|52=>221|55=>225|59=>274|60=>135|20=>20|61=>275|65=>333|66=>334|67=>80|n=>n,fun|0=>13|1=>14|2=>7|3=>11|4=>12|n=>n⟩
theorem Tryz.laysPu14:Go.Proofs.LaysPu.n14 Tryz.prog Tryz.laysPu14_ren:=by repeat' first |kernel_rfl|(intro w;rfl)|(intro w;kernel_rfl)|decide|constructor
open Go.RowKit in
theorem Tryz.strconv_ParseUint_10_at8_ok (s:ByteArray) (Xy:s.size<=9223372036854775806) (u:Nat) (h:Lib.parseUintB 8 s.data.toList=.ok u) (w:World):
 Calls Tryz.prog 284 #[.string s,.int .i64 10,.int .i64 8] w fun e w'=>e=.returned (.tuple #[.int .u64 u,.nilIface])/\(w'=w\/w'=Lib.bytesWorld w 5 s):=Any.strconv_ParseUint_10_at8_ok Tryz.laysPu14 s Xy u h w
open Go.RowKit in
theorem Tryz.strconv_ParseUint_10_at8_syntax (s:ByteArray) (Ie:s.size<=281474976710656) (h:Lib.parseUintB 8 s.data.toList=Lib.parseUintB 8 []) (ev:Value) (w:World) (hv:w.cell? ⟨13,0,none⟩=some ev) (XB:ev=.nilIface\/∃te pe,ev=.iface te pe):
 Calls Tryz.prog 284 #[.string s,.int .i64 10,.int .i64 8] w fun e w'=>∃N,e=.returned (.tuple #[.int .u64 0,.iface 341 (.pointer (some ⟨N,0,none⟩))])/\w.heap.size<=N/\w'.heap[N]? =some (.cells #[.string ⟨#[80,97,114,115,101,85,105,110,116]⟩,.string s,ev] 345 (0,0))/\Below w.heap.size w w':=Any.strconv_ParseUint_10_at8_syntax Tryz.laysPu14 s Ie h ev w hv XB
open Go.RowKit in
theorem Tryz.strconv_ParseUint_10_at8_range (s:ByteArray) (Ie:s.size<=281474976710656) (h:Lib.parseUintB 8 s.data.toList=.range) (ev:Value) (w:World) (hv:w.cell? ⟨14,0,none⟩=some ev) (XB:ev=.nilIface\/∃te pe,ev=.iface te pe):
 Calls Tryz.prog 284 #[.string s,.int .i64 10,.int .i64 8] w fun e w'=>∃N,e=.returned (.tuple #[.int .u64 255,.iface 341 (.pointer (some ⟨N,0,none⟩))])/\w.heap.size<=N/\w'.heap[N]? =some (.cells #[.string ⟨#[80,97,114,115,101,85,105,110,116]⟩,.string s,ev] 345 (0,0))/\Below w.heap.size w w':=Any.strconv_ParseUint_10_at8_range Tryz.laysPu14 s Ie h ev w hv XB
def Tryz.lays144_ren:Go.Shelf.Ren:=⟨fun|144=>270|143=>81|219=>82|217=>107|225=>124|224=>125|267=>126|266=>141|314=>158|n=>n,fun|9=>9|4=>4|3=>3|5=>5|46=>113|146=>200|51=>135|n=>n,fun|1=>2|n=>n⟩
theorem Tryz.lays144:Go.Proofs.Lays.n144 Tryz.prog Tryz.lays144_ren:=by repeat' first |kernel_rfl|(intro w;rfl)|(intro w;kernel_rfl)|decide|constructor
open Go.RowKit Go.Lib in
theorem Tryz.strings_Contains (s sub:ByteArray) (m:Int) (w:World) (hs:s.size<4294967281) (hm:w.cell? ⟨2,0,none⟩=some (.int .i64 m)):
 Calls Tryz.prog 270 #[.string s,.string sub] w fun e w'=>e=.returned (.bool (Lib.contains s.data.toList sub.data.toList))/\w'=w:=Any.strings_Contains Tryz.lays144 s sub m w hs hm
end Go.Proofs
namespace Go.Proofs.YtecoeebjaleeiaaGreatDoor
open Go.RowKit
def u8s (l:List UInt8):List Value:=l.map fun c=>Value.int .u8 c.toNat
theorem DH (l:List UInt8) (c:UInt8):u8s l++[.int .u8 (c.toNat:Int)]=u8s (l++[c]):=by simp[u8s]
theorem BA (l m:List UInt8):u8s l++u8s m=u8s (l++m):=by simp[u8s]
theorem Tryz.infoU8:(Tryz.prog.info? 5).map (fun i=>(i.zero,i.size,i.bytes))=some (some (.int .u8 0),1,1):=by kernel_rfl
theorem bD (w:World) (v:Value) (T:TypeId) (j:Nat) (u:Value) (h:[v][j]? =some u):(w.alloc (.cells #[v] T)).cell? ((⟨w.heap.size,0,none⟩:Addr).add j)=some u:=by
 rw[bV,World.cell?_alloc_mark];have hj:j<1:=by have:=(List.getElem?_eq_some_iff.1 h).1;simpa using this
 obtain rfl:j=0:=by omega
 simpa using h
theorem Below.grown1 {B:Nat} {a w w':World} {o:Obj} {v:Value} {base e size n:Nat} {xs:List Value} (h:Below B a w) (au:w.ownsRow base e size v n xs) (hg:(w.alloc o).grownBy w' v.ownBlock) (hB:B<=w.heap.size) (hb:B<=base):Below B a w':=
 (h.alloc hB o).grown hg (by simp;omega) (fun k hk=>Nat.le_trans hb ((au.alloc o).lt k hk).1)
theorem Oo (w:World):(convert 75 9 (.slice none 0 0)).run Tryz.prog w=.ok (.string ⟨#[]⟩) w:=by kernel_rfl
theorem rc {w:World} {base:Nat} {v:Value} {n:Nat} {l:List UInt8} (h:w.ownsRow base 5 1 v n (u8s l)):
  (convert 75 9 v).run Tryz.prog w=.ok (.string ⟨l.toArray⟩) w:=by
 have hl:l.length=n:=by have:=h.1;simpa [u8s]using this
 rcases h.2 with⟨rfl,h0⟩|⟨g,cap,dB,rfl,Lw,hg,hn,gL,iZ,gH⟩
 ·obtain rfl:l=[]:=List.length_eq_zero_iff.1 (by omega);exact Oo w
 ·rw[<-hl];refine run_convert_bytes_back (P:=Tryz.prog) w 75 9 5 ⟨g,0,none⟩ cap l Tryz.underlying75 Tryz.underlying5 Tryz.underlying9 ?_;intro j hj;rw[bV]
  have h1:dB[j]? =some (.int .u8 (l[j].toNat:Int)):=by
   have h2:(u8s l)[j]? =some (.int .u8 (l[j].toNat:Int)):=by simp[u8s,hj]
   rw[<-gH,List.getElem?_take]at h2;split at h2
   ·simpa using h2
   ·cases h2
  simp[World.cell?,hg,h1]
def SlB (w:World) (v:Value) (l:List UInt8):Prop:=
 ∃a c,v=.slice a l.length c/\l.length<=9223372036854775807/\∀(j:Nat) (b:UInt8),l[j]? =some b->∃B off,a=some ⟨B,off,none⟩/\B<w.heap.size/\w.cell? ⟨B,off+j,none⟩=some (.int .u8 b.toNat)
theorem be (a b:ByteArray):(a++b).data.toList=a.data.toList++b.data.toList:=by simp
end Go.Proofs.YtecoeebjaleeiaaGreatDoor
namespace Lz
open Go
theorem F2 {l:List Nat} {k:Nat} (h:l[k]? =some 0):eu (l.drop k)=1+eu (l.drop (k+1)):=by
 have hk:=(List.getElem?_eq_some_iff.1 h).1;rw[List.drop_eq_getElem_cons hk];have:l[k]=0:=(List.getElem?_eq_some_iff.1 h).2;rw[this];unfold eu;rw[List.takeWhile_cons]
 simp;omega
theorem Ks {l:List Nat} {k x:Nat} (h:l[k]? =some x) (hx:x≠0):eu (l.drop k)=0:=by
 have hk:=(List.getElem?_eq_some_iff.1 h).1;rw[List.drop_eq_getElem_cons hk];have:l[k]=x:=(List.getElem?_eq_some_iff.1 h).2;rw[this];unfold eu;rw[List.takeWhile_cons]
 simp[hx]
theorem DD {l:List Nat} {i:Nat} (f:Nat×Nat) (hi:i<l.length):iA i (l.drop i) f=iA (i+1) (l.drop (i+1)) (if max (f.2-f.1) 1<eu (l.drop i)then(i,i+eu (l.drop i))else f):=by
 rw[List.drop_eq_getElem_cons hi];rfl
end Lz
namespace Go.Proofs.YtecoeebjaleeiaaGreatDoor
open Go.RowKit
def FI (l:List Nat):Value:=.agg (l.map fun n:Nat=>Value.int .u16 (n:Int)).toArray
def Y9 (l:List Nat) (w:World) (e:Ending) (w':World):Prop:=e=.returned (.tuple #[.int .i64 ((Lz.iA 0 l (0,0)).1:Nat),.int .i64 ((Lz.iA 0 l (0,0)).2:Nat)])/\Below w.heap.size w w'
theorem Rs (l:List Nat) (h8:l.length=8) (w:World):Calls Tryz.prog 243 #[FI l] w (Y9 l w):=by
 unfold FI;obtain⟨w1,km⟩:∃w1,w1=w.alloc (.cells (l.map fun n:Nat=>Value.int .u16 (n:Int)).toArray 268):=⟨_,rfl⟩
 have hc:∀j x,l[j]? =some x->w1.cell? ⟨w.heap.size,j,none⟩=some (.int .u16 (x:Nat)):=by
  intro j x hj;rw[km,World.cell?_alloc_mark]
  simp[hj]
 have ar:Below w.heap.size w w1:=by rw[km];exact(Below.refl _ w).alloc (Nat.le_refl _) _
 have Hc:=Ih hc;have H8:=Ih h8;clear hc h8;go_enter Tryz.func243,Tryz.ntmps243
 go_wp2
 rw[<-km];clear km
 go_loop [2,3,6] (fun a b c=>∃i f t:Nat,i<=8/\f<=t/\t<=8/\a=.int .i64 f/\b=.int .i64 t/\c=.int .i64 i/\Hid (Lz.iA i (l.drop i) (f,t)=Lz.iA 0 l (0,0))) (fun _ _ c=>8-(intOf c).toNat)
 case atStart=>exact⟨0,0,0,by omega,by omega,by omega,rfl,rfl,rfl,Ih rfl⟩
 case round=>
  obtain⟨i,f,t,hi,Qg,ht,rfl,rfl,rfl,hR⟩:=hrel;by_cases aV:i<8
  ·have LF:Lz.eu (l.drop 8)=0:=by rw[List.drop_eq_nil_of_le (by rw[H8.out];exact Nat.le_refl _)];rfl
   have Hz8:=Ih LF;clear LF
   go_wp2
   go_loop [5] (fun c=>∃k:Nat,i<=k/\k<=8/\c=.int .i64 k/\Hid (Lz.eu (l.drop i)=(k-i)+Lz.eu (l.drop k))) (fun c=>8-(intOf c).toNat)
   case atStart=>exact⟨i,Nat.le_refl _,by omega,rfl,by show _=_;omega⟩
   case round=>
    obtain⟨k,hik,hk,rfl,hZ⟩:=hrel;by_cases hk8:k<8
    ·obtain⟨x,hx⟩:∃x,l[k]? =some x:=⟨_,List.getElem?_eq_getElem (by rw[H8.out];exact hk8)⟩;have Cf:=Hc.out k x hx;by_cases iB:x=0
     ·have SC:((x:Int)==0)=true:=by rw[iB];rfl
      have Ft:Hid (Lz.eu (l.drop i)=(k+1-i)+Lz.eu (l.drop (k+1))):=by
       show _=_;rw[iB]at hx;rw[hZ.out,Lz.F2 hx];omega
      clear hx iB
      go_wp2
      go_round
      case rel=>exact⟨k+1,by omega,by omega,by go_num,Ft⟩
      case measure=>simp[intOf];omega
     ·have SC:((x:Int)==0)=false:=beq_eq_false_iff_ne.2 (by omega);have Ft:Hid (Lz.eu (l.drop i)=k-i):=by show _=_;rw[hZ.out,Lz.Ks hx iB];omega
      clear hx iB;have hst:=Lz.DD (f,t) (show i<l.length by rw[H8.out];exact aV);rw[Ft.out,hR.out]at hst;have gM:=Ih hst;clear hst;obtain⟨d,hd⟩:∃d:Nat,d=k-i:=⟨_,rfl⟩;obtain⟨g,hg⟩:∃g:Nat,g=t-f:=⟨_,rfl⟩;have Jz:(k:Int)-i=d:=by omega
      have pF:(t:Int)-f=g:=by omega
      have oW:i+(k-i)=k:=by omega
      by_cases hm:max (t-f) 1<k-i
      ·have hm':max (g:Int) 1<d:=by omega
       have HS:Hid (Lz.iA (i+1) (l.drop (i+1)) (i,k)=Lz.iA 0 l (0,0)):=by
        show _=_;have:=gM.out;rw[if_pos hm,oW]at this;exact this.symm
       clear hd hg hm oW
       go_wp2
       go_round
       case rel=>exact⟨i+1,i,k,by omega,hik,hk,rfl,rfl,by go_num,HS⟩
       case measure=>simp[intOf];omega
      ·have hm':¬max (g:Int) 1<d:=by omega
       have HS:Hid (Lz.iA (i+1) (l.drop (i+1)) (f,t)=Lz.iA 0 l (0,0)):=by
        show _=_;have:=gM.out;rw[if_neg hm]at this;exact this.symm
       clear hd hg hm oW
       go_wp2
       go_round
       case rel=>exact⟨i+1,f,t,by omega,Qg,ht,rfl,rfl,by go_num,HS⟩
       case measure=>simp[intOf];omega
    ·have Ft:Hid (Lz.eu (l.drop i)=k-i):=by
      show _=_;have:k=8:=by omega
      have hz:=hZ.out;rw[this,Hz8.out]at hz;omega
     have hst:=Lz.DD (f,t) (show i<l.length by rw[H8.out];exact aV);rw[Ft.out,hR.out]at hst;have gM:=Ih hst;clear hst;obtain⟨d,hd⟩:∃d:Nat,d=k-i:=⟨_,rfl⟩;obtain⟨g,hg⟩:∃g:Nat,g=t-f:=⟨_,rfl⟩;have Jz:(k:Int)-i=d:=by omega
     have pF:(t:Int)-f=g:=by omega
     have oW:i+(k-i)=k:=by omega
     by_cases hm:max (t-f) 1<k-i
     ·have hm':max (g:Int) 1<d:=by omega
      have HS:Hid (Lz.iA (i+1) (l.drop (i+1)) (i,k)=Lz.iA 0 l (0,0)):=by
       show _=_;have:=gM.out;rw[if_pos hm,oW]at this;exact this.symm
      clear hd hg hm oW
      go_wp2
      go_round
      case rel=>exact⟨i+1,i,k,by omega,hik,hk,rfl,rfl,by go_num,HS⟩
      case measure=>simp[intOf];omega
     ·have hm':¬max (g:Int) 1<d:=by omega
      have HS:Hid (Lz.iA (i+1) (l.drop (i+1)) (f,t)=Lz.iA 0 l (0,0)):=by
       show _=_;have:=gM.out;rw[if_neg hm]at this;exact this.symm
      clear hd hg hm oW
      go_wp2
      go_round
      case rel=>exact⟨i+1,f,t,by omega,Qg,ht,rfl,rfl,by go_num,HS⟩
      case measure=>simp[intOf];omega
  ·have Sv:i=8:=by omega
   have nO:Hid (Lz.iA 0 l (0,0)=(f,t)):=by
    show _=_;rw[<-hR.out,Sv,List.drop_eq_nil_of_le (by rw[H8.out];exact Nat.le_refl _)];rfl
   clear Sv
   go_wp2
   go_ret2
   exact⟨by rw[nO.out];rfl,ar⟩
end Go.Proofs.YtecoeebjaleeiaaGreatDoor
namespace Lz
open Go
def ja (d:Nat):UInt8:=if d<10 then UInt8.ofNat (48+d)else UInt8.ofNat (87+d)
theorem KR:∀d:Fin 16,jb (ja d.val)=some d.val:=by decide +kernel
theorem EL {d:Nat} (h:d<16):jb (ja d)=some d:=KR ⟨d,h⟩
theorem kX {n:Nat} (h:n<16):iz n=[ja n]:=by
 rw[iz,dif_pos h,Nat.mod_eq_of_lt h];unfold ja;rfl
theorem rn {n:Nat} (h:¬n<16):iz n=iz (n / 16)++[ja (n%16)]:=by
 rw[iz,dif_neg h];unfold ja;rfl
def qI (c:UInt8):Bool:=bj c||(97<=c&&c<=102)
theorem Oj:∀d:Fin 16,qI (ja d.val)=true:=by decide +kernel
theorem I6 {d:Nat} (h:d<16):qI (ja d)=true:=Oj ⟨d,h⟩
theorem xx (n:Nat):∀c∈iz n,qI c=true:=by
 induction n using Nat.strongRecOn with
 | ind n ih=>
   by_cases h:n<16
   ·rw[kX h];intro c hc;rw[List.mem_singleton]at hc;rw[hc];exact I6 h
   ·rw[rn h];intro c hc;rcases List.mem_append.1 hc with hc|hc
    ·exact ih (n / 16) (by omega) c hc
    ·rw[List.mem_singleton]at hc;rw[hc];exact I6 (by omega)
theorem pf (n:Nat):iz n≠[]:=by
 rw[iz];simp
theorem wI (k:Nat):∀n,n<16^(k+1)->(iz n).length<=k+1:=by
 induction k with
 | zero=>intro n h;rw[kX (by simpa using h)];simp
 | succ k ih=>
   intro n h;by_cases h1:n<16
   ·rw[kX h1];simp
   ·rw[rn h1];have:=ih (n / 16) (by rw[Nat.pow_succ]at h;omega);simp only[List.length_append,List.length_singleton];omega
def zh (n:Nat) (c:UInt8):Option Nat:=(jb c).map (n*16+·)
theorem K5 (n:Nat):(iz n).foldlM zh 0=some n:=by
 induction n using Nat.strongRecOn with
 | ind n ih=>
   by_cases h:n<16
   ·rw[kX h]
    simp[List.foldlM_cons,zh,EL h]
   ·rw[rn h,List.foldlM_append,ih (n / 16) (by omega)];simp only[Option.bind_eq_bind,Option.bind_some,List.foldlM_cons,List.foldlM_nil,zh,EL (show n%16<16 by omega),Option.map_some];show some _=_;congr 1;omega
theorem FD {n:Nat} (h:n<65536):iq (iz n)=some n:=by
 unfold iq;have hl:=wI 3 n (by simpa using h);rw[if_neg]
 ·exact K5 n
 ·rintro(h1|h1)
  ·exact pf n h1
  ·omega
theorem zW:∀c:UInt8,∀d,jb c=some d->d<16:=by
 intro c;revert c;have:∀c:UInt8,(match jb c with|some d=>decide (d<16)|none=>true)=true:=aJ (by decide +kernel);intro c d h;have:=this c;rw[h]at this;simpa using this
theorem R7 {l:Bs}:∀{n m:Nat},l.foldlM zh n=some m->m<(n+1)*16^l.length:=by
 induction l with
 | nil=>intro n m h;simp at h;simp;omega
 | cons c r ih=>
   intro n m h;rw[List.foldlM_cons]at h;unfold zh at h;cases hc:jb c with
   | none=>rw[hc]at h;cases h
   | some d=>
     rw[hc]at h;have hd:=zW c d hc;have h2:=ih (n:=n*16+d) h;rw[List.length_cons,Nat.pow_succ];have:(n*16+d+1)*16^r.length<=((n+1)*16)*16^r.length:=Nat.mul_le_mul_right _ (by omega);rw[Nat.mul_comm (16^r.length) 16,<-Nat.mul_assoc];omega
theorem Kv {x:Bs} {n:Nat} (h:iq x=some n):n<65536:=by
 unfold iq at h;split at h
 ·cases h
 ·rename_i hx;have h2:=R7 (l:=x) (n:=0) (m:=n) h;have:(16:Nat)^x.length<=16^4:=Nat.pow_le_pow_right (by omega) (by omega);omega
theorem uz (k:UInt8):∀l:Bs,(∀c∈l,c≠k)->av k l=[l]
 | [],_=>rfl
 | c::l,h=>by
   rw[av,if_neg (by simpa using h c (by simp)),uz k l (fun x hx=>h x (by simp[hx]))]
theorem vV (k:UInt8):∀(a b:Bs),(∀c∈a,c≠k)->av k (a++k::b)=a::av k b
 | [],b,_=>by simp[av]
 | c::a,b,h=>by
   show av k (c::(a++k::b))=_;rw[av,if_neg (by simpa using h c (by simp)),vV k a b (fun x hx=>h x (by simp[hx]))]
theorem nZ (k:UInt8):∀ls:List Bs,ls≠[]->(∀x∈ls,∀c∈x,c≠k)->av k (gi [k] ls)=ls
 | [],h,_=>absurd rfl h
 | [x],_,h=>by rw[gi];exact uz k x (h x (by simp))
 | x::y::r,_,h=>by
   rw[gi,List.append_assoc,List.singleton_append,vV k x _ (h x (by simp)),nZ k (y::r) (by simp) (fun z hz=>h z (by simp[hz]))]
theorem sB {sep:Bs}:∀{ls:List Bs} {c:UInt8},c∈gi sep ls->c∈sep\/∃x∈ls,c∈x
 | [],c,h=>by simp[gi]at h
 | [x],c,h=>Or.inr ⟨x,by simp,h⟩
 | x::y::r,c,h=>by
   rw[gi]at h;rcases List.mem_append.1 h with h|h
   ·rcases List.mem_append.1 h with h|h
    ·exact Or.inr ⟨x,by simp,h⟩
    ·exact Or.inl h
   ·rcases sB h with h|⟨z,hz,hc⟩
    ·exact Or.inl h
    ·exact Or.inr ⟨z,by simp[hz],hc⟩
theorem wj {sep:Bs}:∀{ls:List Bs},ls≠[]->(∀x∈ls,x≠[])->gi sep ls≠[]
 | [],h,_=>absurd rfl h
 | [x],_,h=>h x (by simp)
 | x::y::r,_,h=>by
   rw[gi];have:=h x (by simp);cases x with
   | nil=>exact absurd rfl this
   | cons a b=>simp
theorem FH:∀c:UInt8,qI c=true->c≠58/\c≠46:=aJ (by decide +kernel)
theorem mx (n:Nat):∀c∈iz n,c≠58/\c≠46:=fun c hc=>FH c (xx n c hc)
theorem C9 (last:Bool):∀l:List Nat,(∀n∈l,n<65536)->jW last (l.map iz)=some l
 | [],_=>rfl
 | n::l,h=>by
   have h46:(iz n).contains 46=false:=by
    rw[Bool.eq_false_iff];intro hc;exact(mx n 46 (List.contains_iff_mem.1 hc)).2 rfl
   rw[List.map_cons,jW,h46,FD (h n (by simp)),C9 last l (fun m hm=>h m (by simp[hm]))]
   simp
theorem ql (last:Bool) (l:List Nat) (h:∀n∈l,n<65536):ie (cl l) last=some l:=by
 unfold ie;by_cases hl:l=[]
 ·rw[hl];rfl
 ·have ed:cl l≠[]:=by
   unfold cl;exact wj (by simpa using hl) (by intro x hx;obtain⟨n,_,rfl⟩:=List.mem_map.1 hx;exact pf n)
  rw[if_neg ed];unfold cl;rw[nZ 58 _ (by simpa using hl) (by intro x hx c hc;obtain⟨n,_,rfl⟩:=List.mem_map.1 hx;exact(mx n c hc).1)];exact C9 last l h
def eo:Bs->Bool
 | []=>true
 | [c]=>c != 58
 | c::d::r=>(c != 58||d != 58)&&eo (d::r)
theorem nh:∀(a b:Bs),eo a=true->Lib.index (a++58::58::b) [58,58]=a.length
 | [],b,_=>by rw[List.nil_append,show(58::58::b:Bs)=[58,58]++b from rfl,FS _ _ (by simp)];rfl
 | [c],b,h=>by
   have hc:c≠58:=by simpa [eo]using h
   show Lib.index (c::([]++58::58::b)) [58,58]=_;rw[nH hc,nh [] b rfl];rfl
 | c::d::r,b,h=>by
   simp only[eo,Bool.and_eq_true,Bool.or_eq_true,bne_iff_ne]at h;have ih:=nh (d::r) b h.2
   have hp:([58,58]:Bs).isPrefixOf (c::d::(r++58::58::b))=false:=by
    rw[Bool.eq_false_iff];intro hh;simp only[List.isPrefixOf,Bool.and_eq_true,beq_iff_eq]at hh;rcases h.1 with h1|h1
    ·exact h1 hh.1.symm
    ·exact h1 hh.2.1.symm
   show Lib.index (c::d::(r++58::58::b)) [58,58]=_;rw[Lib.index,hp];simp only[Bool.false_eq_true,if_false];rw[show(d::(r++58::58::b):Bs)=(d::r)++58::58::b from rfl,ih];rw[if_neg (by simp;omega)]
   simp
theorem lB:∀(a:Bs),eo a=true->Lib.index a [58,58]= -1
 | [],_=>rfl
 | [c],h=>by
   have hc:c≠58:=by simpa [eo]using h
   rw[nH hc];rfl
 | c::d::r,h=>by
   simp only[eo,Bool.and_eq_true,Bool.or_eq_true,bne_iff_ne]at h;have ih:=lB (d::r) h.2
   have hp:([58,58]:Bs).isPrefixOf (c::d::r)=false:=by
    rw[Bool.eq_false_iff];intro hh;simp only[List.isPrefixOf,Bool.and_eq_true,beq_iff_eq]at hh;rcases h.1 with h1|h1
    ·exact h1 hh.1.symm
    ·exact h1 hh.2.1.symm
   rw[Lib.index,hp];simp only[Bool.false_eq_true,if_false];rw[ih];rfl
theorem wM:∀(x b:Bs),(∀c∈x,c≠58)->x≠[]->eo b=true->b.head? ≠some 58->eo (x++b)=true
 | [],_,_,h,_,_=>absurd rfl h
 | [c],[],h,_,_,_=>by simpa [eo]using h c (by simp)
 | [c],d::r,h,_,hb,_=>by
   show eo (c::d::r)=true;rw[eo,hb];simpa using Or.inl (h c (by simp))
 | c::d::r,b,h,_,hb,hh=>by
   show eo (c::d::(r++b))=true;rw[eo,show(d::(r++b):Bs)=(d::r)++b from rfl,wM (d::r) b (fun z hz=>h z (by simp[hz])) (by simp) hb hh];simpa using Or.inl (h c (by simp))
theorem xH:∀(x b:Bs),(∀c∈x,c≠58)->x≠[]->eo b=true->b≠[]->b.head? ≠some 58->eo (x++58::b)=true
 | [],_,_,h,_,_,_=>absurd rfl h
 | [c],[],_,_,_,h,_=>absurd rfl h
 | [c],d::r,h,_,hb,_,hh=>by
   show eo (c::58::d::r)=true;have hd:d≠58:=by simpa using hh
   rw[eo,eo,hb]
   simp[h c (by simp),hd]
 | c::d::r,b,h,_,hb,hn,hh=>by
   show eo (c::d::(r++58::b))=true;rw[eo,show(d::(r++58::b):Bs)=(d::r)++58::b from rfl,xH (d::r) b (fun z hz=>h z (by simp[hz])) (by simp) hb hn hh];simpa using Or.inl (h c (by simp))
theorem Aa (l:List Nat):(cl l).head? ≠some 58:=by
 unfold cl
 match l with
 | []=>simp[gi]
 | [n]=>
   show(iz n).head? ≠_;intro h;cases hx:iz n with
   | nil=>rw[hx]at h;cases h
   | cons c r=>rw[hx]at h;exact(mx n c (by rw[hx];simp)).1 (by simpa using h)
 | n::m::r=>
   show(iz n++[58]++_).head? ≠_;intro h;cases hx:iz n with
   | nil=>exact pf n hx
   | cons c r=>rw[hx]at h;exact(mx n c (by rw[hx];simp)).1 (by simpa using h)
theorem I4 {l:List Nat} (h:l≠[]):cl l≠[]:=by
 unfold cl;exact wj (by simpa using h) (by intro x hx;obtain⟨n,_,rfl⟩:=List.mem_map.1 hx;exact pf n)
theorem xD:∀l:List Nat,eo (cl l)=true
 | []=>rfl
 | [n]=>by
   have:=wM (iz n) [] (fun c hc=>(mx n c hc).1) (pf n) rfl (by simp);rw[List.append_nil]at this;exact this
 | n::m::r=>by
   show eo (iz n++[58]++cl (m::r))=true;rw[List.append_assoc,List.singleton_append];exact xH _ _ (fun c hc=>(mx n c hc).1) (pf n) (xD (m::r)) (I4 (by simp)) (Aa _)
theorem NF (l r:List Nat):Lib.cut (cl l++[58,58]++cl r) [58,58]=(cl l,cl r,true):=by
 have h:=nh (cl l) (cl r) (xD l);unfold Lib.cut;rw[show cl l++[58,58]++cl r=cl l++58::58::cl r by simp,h];rw[if_pos (by omega)]
 simp
theorem N7 (l:List Nat):Lib.cut (cl l) [58,58]=(cl l,[],false):=MS _ _ (lB _ (xD l))
def Na (a:List Nat) (f:Nat×Nat):Prop:=f=(0,0)\/(f.1+2<=f.2/\f.2<=a.length/\∀k,f.1<=k->k<f.2->a[k]? =some 0)
theorem JL (l:List Nat):eu l<=l.length/\∀k,k<eu l->l[k]? =some 0:=by
 unfold eu
 induction l with
 | nil=>simp
 | cons x r ih=>
   rw[List.takeWhile_cons];by_cases h:x=0
   ·simp only[h,beq_self_eq_true,if_true,List.length_cons];refine⟨by omega,fun k hk=>?_⟩;cases k with
    | zero=>rfl
    | succ k=>simpa using ih.2 k (by omega)
   ·simp[h]
theorem Vd (a:List Nat):∀(n i:Nat) (f:Nat×Nat),a.length-i=n->Na a f->Na a (iA i (a.drop i) f):=by
 intro n
 induction n with
 | zero=>intro i f hn hf;rw[List.drop_eq_nil_of_le (by omega)];exact hf
 | succ n ih=>
   intro i f hn hf;have hi:i<a.length:=by omega
   have hd:=List.drop_eq_getElem_cons hi;rw[hd,iA,<-hd];refine ih (i+1) _ (by omega) ?_;split
   ·rename_i hm;have hz:=JL (a.drop i);rw[List.length_drop]at hz;refine Or.inr ⟨by show i+2<=i+eu _;omega,by show i+eu _<=_;omega,fun k h1 h2=>?_⟩;have:=hz.2 (k-i) (by show k-i<eu _;have:k<i+eu (a.drop i):=h2;have:i<=k:=h1;omega);rw[List.getElem?_drop,show i+(k-i)=k by have:i<=k:=h1;omega]at this;exact this
   ·exact hf
theorem IG (a:List Nat):Na a (iA 0 a (0,0)):=by
 have:=Vd a _ 0 (0,0) rfl (Or.inl rfl)
 rwa [List.drop_zero]at this
theorem Oa (a:List Nat) (h8:a.length=8) (hl:∀n∈a,n<65536):kD (fv a)=some a:=by
 unfold fv;have hr:=IG a;generalize iA 0 a (0,0)=f at hr⊢;obtain⟨f,t⟩:=f;by_cases he:f=t
 ·rw[if_pos he];unfold kD;rw[N7]
  have ed:(cl a).isEmpty=false:=by
   rw[List.isEmpty_eq_false_iff];exact I4 (by intro h;rw[h]at h8;cases h8)
  simp only[ed,ql _ a hl,show ie [] true=some []from rfl,List.append_nil,List.length_nil,Nat.add_zero,h8,Lib.hasPrefix]
  simp
 ·rcases hr with hr|⟨h1,h2,h3⟩
  ·exact absurd (by injection hr with a b;rw[a,b]) he
  ·simp only at h1 h2 h3;rw[if_neg (by exact he)];unfold kD;rw[NF]
   have hp:Lib.hasPrefix (cl (a.drop t)) [58]=false:=by
    rw[Bool.eq_false_iff];intro hh;unfold Lib.hasPrefix at hh;have:=Aa (a.drop t);cases hx:cl (a.drop t)with
    | nil=>rw[hx]at hh;cases hh
    | cons c r=>rw[hx]at hh this;simp[List.isPrefixOf]at hh;exact this (by simp[hh])
   simp only[hp,ql _ (a.take f) (fun n hn=>hl n (List.mem_of_mem_take hn)),ql _ (a.drop t) (fun n hn=>hl n (List.mem_of_mem_drop hn))];simp only[Bool.not_true,Bool.false_and,Bool.or_self,Bool.false_eq_true,if_false,if_true,List.length_take,List.length_drop];rw[if_neg (by omega)];congr 1
   apply List.ext_getElem?
   intro k;by_cases hk:k<f
   ·rw[List.append_assoc,List.getElem?_append_left (by simp;omega),List.getElem?_take,if_pos hk]
   ·rw[List.append_assoc,List.getElem?_append_right (by simp;omega)];by_cases hkt:k<t
    ·rw[List.getElem?_append_left (by simp;omega),List.getElem?_replicate,if_pos (by simp;omega),h3 k (by omega) hkt]
    ·rw[List.getElem?_append_right (by simp;omega),List.getElem?_drop];congr 1
     simp;omega
theorem AE {x:Bs} {l:List Nat} (h:ia x=some l):l.length=4/\∀n∈l,n<256:=by
 unfold ia at h;cases hm:(av 46 x).mapM lE with
 | none=>rw[hm]at h;cases h
 | some m=>
   rw[hm]at h
   have:∀(xs:List Bs) (m:List Nat),xs.mapM lE=some m->∀n∈m,n<256:=by
    intro xs
    induction xs with
    | nil=>intro m h n hn;simp at h;rw[h]at hn;cases hn
    | cons x r ih=>
      intro m h n hn;rw[List.mapM_cons]at h;cases hx:lE x with
      | none=>rw[hx]at h;cases h
      | some v=>
        rw[hx]at h;cases hr:r.mapM lE with
        | none=>rw[hr]at h;cases h
        | some ms=>
          rw[hr]at h;have h:some (v::ms)=some m:=h;injection h with h
          rw[<-h]at hn;rcases List.mem_cons.1 hn with rfl|hn
          ·unfold lE at hx;split at hx
           ·rename_i u hu;have:=Lib.parseUintB_le hu;split at hx
            ·injection hx with hx;omega
            ·cases hx
           ·cases hx
          ·exact ih ms hr n hn
   simp only at h;split at h
   ·injection h with h;rw[<-h];exact⟨by assumption,this _ _ hm⟩
   ·cases h
theorem zS {b:List Nat} (h:b.length=4):∃p q s t,b=[p,q,s,t]:=by
 cases b with
 | nil=>cases h
 | cons p b=>cases b with
   | nil=>cases h
   | cons q b=>cases b with
     | nil=>cases h
     | cons s b=>cases b with
       | nil=>cases h
       | cons t b=>cases b with
         | nil=>exact⟨p,q,s,t,rfl⟩
         | cons _ _=>simp at h
theorem Jp (last:Bool):∀(ls:List Bs) (l:List Nat),jW last ls=some l->∀n∈l,n<65536
 | [],l,h,n,hn=>by simp[jW]at h;rw[h]at hn;cases hn
 | x::r,l,h,n,hn=>by
   rw[jW]at h;split at h
   ·cases hb:ia x with
    | none=>rw[hb]at h;cases h
    | some b=>
      rw[hb]at h;obtain⟨h4,aV⟩:=AE hb;obtain⟨p,q,s,t,rfl⟩:=zS h4;simp only[Option.map_some,List.getD_cons_zero,List.getD_cons_succ]at h;injection h with h
      rw[<-h]at hn;have:=aV p (by simp);have:=aV q (by simp);have:=aV s (by simp);have:=aV t (by simp);simp only[List.mem_cons,List.not_mem_nil,or_false]at hn;rcases hn with rfl|rfl<;>omega
   ·cases hp:iq x with
    | none=>rw[hp]at h;cases h
    | some v=>
      rw[hp]at h;simp only at h;cases hr:jW last r with
      | none=>rw[hr]at h;cases h
      | some m=>
        rw[hr]at h;simp only[Option.map_some]at h;injection h with h
        rw[<-h]at hn;rcases List.mem_cons.1 hn with rfl|hn
        ·exact Kv hp
        ·exact Jp last r m hr n hn
theorem IY {s:Bs} {last:Bool} {l:List Nat} (h:ie s last=some l):∀n∈l,n<65536:=by
 unfold ie at h;split at h
 ·injection h with h;rw[<-h];intro n hn;cases hn
 ·exact Jp _ _ _ h
theorem Bn {s:Bs} {a:List Nat} (h:kD s=some a):a.length=8/\∀n∈a,n<65536:=by
 unfold kD at h;simp only at h;split at h
 ·cases h
 ·split at h
  ·rename_i x y hx hy;have h1:=IY hx;have h2:=IY hy;split at h
   ·split at h
    ·cases h
    ·injection h with h
     rw[<-h];refine⟨by simp;omega,fun n hn=>?_⟩;simp only[List.mem_append,List.mem_replicate]at hn;rcases hn with(hn|hn)|hn
     ·exact h1 n hn
     ·omega
     ·exact h2 n hn
   ·split at h
    ·injection h with h
     rw[<-h];refine⟨by simpa using by assumption,fun n hn=>?_⟩;rcases List.mem_append.1 hn with hn|hn
     ·exact h1 n hn
     ·exact h2 n hn
    ·cases h
  ·cases h
theorem Ow:∀n:Fin 256,sD (Lib.decDigits n.val)=some n.val:=by decide +kernel
theorem Rc {n:Nat} (h:n<256):sD (Lib.decDigits n)=some n:=Ow ⟨n,h⟩
theorem Bv:∀c:UInt8,bj c=true->c≠46/\c≠58/\c≠37/\low1 c=c/\rL c=false/\eO.contains c=false/\(c<32||126<c)=false:=aJ (by decide +kernel)
theorem rN (b:List Nat):∀c∈fH b,bj c=true\/c=46:=by
 intro c hc;unfold fH at hc;rcases sB hc with h|⟨x,hx,h⟩
 ·right;simpa using h
 ·obtain⟨n,_,rfl⟩:=List.mem_map.1 hx;exact Or.inl (sY n c h)
theorem A6 {b:List Nat} (hb:b≠[]):av 46 (fH b)=b.map fun x=>Lib.decDigits x:=by
 unfold fH;exact nZ 46 _ (by simpa using hb) (by intro x hx c hc;obtain⟨n,_,rfl⟩:=List.mem_map.1 hx;exact(Bv c (sY n c hc)).1)
theorem yO {b:List Nat} (hb:b≠[]):dz (fH b)=b.map fun x=>Lib.decDigits x:=by
 unfold dz;rw[A6 hb,if_neg];rintro⟨_,h⟩;rw[List.getLast?_map]at h;cases hl:b.getLast? with
 | none=>rw[hl]at h;cases h
 | some x=>rw[hl]at h;exact GQ x (Option.some.inj h)
theorem J8 (b:List Nat) (n:Nat) (h:b.length<=n) (hn:n=4) (hl:∀x∈b,x<256):fy n (b.map fun x=>Lib.decDigits x)=some b:=by
 subst hn
 induction b with
 | nil=>rfl
 | cons x r ih=>
   have hx:x<256:=hl x (by simp);rw[List.map_cons,fy,Rc hx];have hm:(if(r.map fun x=>Lib.decDigits x)=[]then 5-4 else 1)=1:=by split<;>rfl
   simp only[hm];rw[if_neg (by omega),ih (fun y hy=>hl y (List.mem_cons_of_mem _ hy)) (by simp at h;omega)]
   have:(List.range 1).reverse.map (fun k=>x / 256^k%256)=[x]:=by
    show[x / 256^0%256]=[x];rw[Nat.pow_zero,Nat.div_one,Nat.mod_eq_of_lt hx]
   rw[this];rfl
theorem C5 {b:List Nat} (h4:b.length=4) (hl:∀x∈b,x<256):gd (dz (fH b))=some (fH b):=by
 have hb:b≠[]:=by intro h;rw[h]at h4;cases h4
 unfold gd;rw[yO hb,List.length_map,h4,if_neg (by omega),J8 b 4 (by omega) rfl hl];rfl
def gN (many v:Nat):List Nat:=(List.range many).reverse.map fun k=>v / 256^k%256
theorem vI {many v x:Nat} (h:x∈gN many v):x<256:=by
 unfold gN at h;simp only[List.mem_map,List.mem_reverse]at h;obtain⟨k,_,rfl⟩:=h;exact Nat.mod_lt _ (by omega)
theorem rO (many v:Nat):(gN many v).length=many:=by unfold gN;simp
theorem wV (n:Nat) (s:Bs) (r:List Bs):fy n (s::r)=match sD s with
 | none=>none
 | some v=>if 0<v / 256^(if r=[]then 5-n else 1)then none else(fy n r).map fun t=>gN (if r=[]then 5-n else 1) v++t:=rfl
theorem Kx {n:Nat} {s:Bs} {r:List Bs} {b:List Nat} (h:fy n (s::r)=some b):∃v t,sD s=some v/\fy n r=some t/\b=gN (if r=[]then 5-n else 1) v++t:=by
 rw[wV]at h;cases hv:sD s with
 | none=>rw[hv]at h;cases h
 | some v=>
   rw[hv]at h;simp only at h;generalize (if r=[]then 5-n else 1)=m at h⊢;by_cases h0:0<v / 256^m
   ·rw[if_pos h0]at h;cases h
   ·rw[if_neg h0]at h;cases hr:fy n r with
    | none=>rw[hr]at h;cases h
    | some t=>
      rw[hr]at h;exact⟨v,t,rfl,rfl,(Option.some.inj h).symm⟩
theorem Az:∀(l:List Bs) (n:Nat) (b:List Nat),l≠[]->l.length<=n->n<=4->fy n l=some b->b.length=l.length+(4-n)/\∀x∈b,x<256
 | [],n,b,h,_,_,_=>absurd rfl h
 | s::r,n,b,_,hl,hn,h=>by
   obtain⟨v,t,hv,hr,rfl⟩:=Kx h;simp only[List.length_cons]at hl⊢;rw[List.length_append,rO];by_cases qV:r=[]
   ·rw[qV,fy]at hr;injection hr with hr
    rw[qV,if_pos rfl,<-hr];refine⟨by simp;omega,fun x hx=>?_⟩;rw[List.append_nil]at hx;exact vI hx
   ·rw[if_neg qV];obtain⟨h1,h2⟩:=Az r n t qV (by omega) hn hr;refine⟨by omega,fun x hx=>?_⟩;rcases List.mem_append.1 hx with hx|hx
    ·exact vI hx
    ·exact h2 x hx
theorem Jd {l:List Bs} {t:Bs} (hl:l≠[]) (h:gd l=some t):∃b:List Nat,b.length=4/\(∀x∈b,x<256)/\t=fH b:=by
 unfold gd at h;split at h
 ·cases h
 ·cases hb:fy l.length l with
  | none=>rw[hb]at h;cases h
  | some b=>
    rw[hb]at h;injection h with h
    obtain⟨h1,h2⟩:=Az l l.length b hl (Nat.le_refl _) (by omega) hb;exact⟨b,by omega,h2,h.symm⟩
theorem zE (s:Bs):dz s≠[]:=by
 have ed:av 46 s≠[]:=by
  cases s with
  | nil=>simp[av]
  | cons b r=>
    rw[av];split
    ·simp
    ·split<;>simp
 unfold dz;split
 ·rename_i h;intro h2;have:=congrArg List.length h2
  simp at this;omega
 ·exact ed
theorem FO {c:UInt8} (h:c≠37) (r:Bs):d8 (c::r)=none:=by
 unfold d8;split
 ·rename_i heq;injection heq with h1 _
  exact absurd h1 h
 ·rfl
theorem Dw {c:UInt8} {r:Bs} {x:Bs} (h:d8 (c::r)=none) (hx:aw r=x):aw (c::r)=c::x:=by
 rw[aw,h];simp[hx]
theorem ur:∀l:Bs,(∀c∈l,c≠37)->aw l=l
 | [],_=>by rw[aw]
 | c::r,h=>Dw (FO (h c (by simp)) r) (ur r fun x hx=>h x (by simp[hx]))
theorem uj (of:Bs) (l:Bs) (h:∀c∈l,(c<32||126<c||of.contains c)=false):aj of l=l:=by
 unfold aj
 induction l with
 | nil=>rfl
 | cons c r ih=>rw[List.flatMap_cons,h c (by simp),ih fun x hx=>h x (by simp[hx])];rfl
theorem M8 (l:Bs) (h:∀c∈l,low1 c=c):low l=l:=by
 unfold low
 induction l with
 | nil=>rfl
 | cons c r ih=>rw[List.map_cons,h c (by simp),ih fun x hx=>h x (by simp[hx])]
def Tc (d:Bs):Prop:=d≠[]/\d.any rL=false/\low d=d/\(cu d=false\/gd (dz d)=some d)
theorem rj:∀c:UInt8,rL c=false->c≠37/\c≠91/\eO.contains c=false/\(c<32||126<c)=false:=aJ (by decide +kernel)
theorem tm {p:UInt8->Bool} {l:Bs} (h:l.any p=false):∀c∈l,p c=false:=by
 intro c hc;rw[List.any_eq_false]at h;simpa using h c hc
theorem Au {d:Bs} (h:Tc d) (special:Bool):aN d special=.ok d:=by
 obtain⟨h1,h2,h3,h4⟩:=h;have hc:=tm h2
 have Md:d[0]? ≠some 91:=by
  intro h;have:=List.mem_of_getElem? h;exact(rj 91 (hc 91 this)).2.1 rfl
 unfold aN;rw[if_neg Md];cases special
 ·have hb:d.any eO.contains=false:=by
   rw[List.any_eq_false];intro c Ch;have:=(rj c (hc c Ch)).2.2.1;rw[this];simp
  rw[if_neg (by simp),hb,if_neg (by simp),uj];intro c Ch;have:=(rj c (hc c Ch)).2.2.2;rw[this];rfl
 ·rw[if_pos rfl];unfold eV;rw[ur d fun c Ch=>(rj c (hc c Ch)).1];simp only[h3];rw[if_neg (by rw[h2];simp[h1])];rcases h4 with h4|h4
  ·rw[h4];rfl
  ·cases hn:cu d
   ·rfl
   ·rw[h4];rfl
theorem N6 {s d:Bs} (h:eV s=.ok d):Tc d:=by
 unfold eV at h;simp only at h;generalize hx:low (aw s)=x at h;split at h
 ·cases h
 ·rename_i hn;have yj:x≠[]:=fun e=>hn (Or.inl e);have pZ:x.any rL=false:=by rw[<-Bool.not_eq_true];exact fun e=>hn (Or.inr e)
  split at h
  ·cases hf:gd (dz x)with
   | none=>rw[hf]at h;cases h
   | some t=>
     rw[hf]at h;simp only[ofO]at h;injection h with h
     rw[<-h];obtain⟨b,h4,hl,rfl⟩:=Jd (zE x) hf;have hb:b≠[]:=by intro h;rw[h]at h4;cases h4
     refine⟨?_,?_,?_,Or.inr (C5 h4 hl)⟩
     ·unfold fH;exact wj (by simpa using hb) (by intro x hx;obtain⟨n,_,rfl⟩:=List.mem_map.1 hx;exact GQ n)
     ·rw[List.any_eq_false];intro c hc;rcases rN b c hc with h|rfl
      ·rw[(Bv c h).2.2.2.2.1];simp
      ·decide
     ·apply M8
      intro c hc;rcases rN b c hc with h|rfl
      ·exact(Bv c h).2.2.2.1
      ·decide
  ·rename_i Fa;injection h with h
   rw[<-h];exact⟨yj,pZ,by rw[<-hx,vD],Or.inl (by simpa using Fa)⟩
theorem xo (a:List Nat) (h8:a.length=8) (hl:∀n∈a,n<65536) (special:Bool):aN ([91]++fv a++[93]) special=.ok ([91]++fv a++[93]):=by
 unfold aN;rw[if_pos (by simp)]
 have h1:¬(([91]++fv a++[93]:Bs).length<2\/([91]++fv a++[93]:Bs).getLast? ≠some 93):=by
  rw[List.getLast?_append];simp
 rw[if_neg h1];have h2:(([91]++fv a++[93]:Bs).drop 1).dropLast=fv a:=by simp
 rw[h2,Oa a h8 hl];rfl
theorem RR:∀c:UInt8,eO.contains c=false->∀x∈(if c<32||126<c||([]:Bs).contains c then[37,dP (c.toNat / 16),dP (c.toNat%16)]else[c]:Bs),eO.contains x=false/\(x<32||126<x)=false:=by
 have:∀c:UInt8,(eO.contains c||(if c<32||126<c||([]:Bs).contains c then[37,dP (c.toNat / 16),dP (c.toNat%16)]else[c]:Bs).all fun x=> !eO.contains x&& !(x<32||126<x))=true:=aJ (by decide +kernel);intro c hc x hx;have h:=this c;rw[hc,Bool.false_or,List.all_eq_true]at h;simpa using h x hx
theorem MX {s:Bs} (h:s.any eO.contains=false):∀x∈aj [] s,eO.contains x=false/\(x<32||126<x)=false:=by
 intro x hx;unfold aj at hx;obtain⟨c,hc,hx⟩:=List.mem_flatMap.1 hx;exact RR c (tm h c hc) x hx
theorem D4 {s:Bs} (h:s.any eO.contains=false):aN (aj [] s) false=.ok (aj [] s):=by
 have hc:=MX h
 have Md:(aj [] s)[0]? ≠some 91:=by
  intro h;have:=(hc 91 (List.mem_of_getElem? h)).1;exact absurd this (by decide)
 unfold aN;rw[if_neg Md,if_neg (by simp)]
 have hb:(aj [] s).any eO.contains=false:=by
  rw[List.any_eq_false];intro c Ch;rw[(hc c Ch).1];simp
 rw[hb,if_neg (by simp),uj];intro c Ch;rw[(hc c Ch).2];rfl
theorem j5 {s h:Bs} (e:aN s true=.ok h):aN h true=.ok h/\aN h false=.ok h/\h≠[]:=by
 unfold aN at e;split at e
 ·split at e
  ·cases e
  ·cases ha:kD ((s.drop 1).dropLast)with
   | none=>rw[ha]at e;cases e
   | some a=>
     rw[ha]at e;simp only[Option.map_some,ofO]at e;injection e with e
     rw[<-e];obtain⟨h8,hl⟩:=Bn ha;exact⟨xo a h8 hl true,xo a h8 hl false,by simp⟩
 ·rw[if_pos rfl]at e;have:=N6 e;exact⟨Au this true,Au this false,this.1⟩
theorem tw {s h:Bs} (e:aN s false=.ok h):aN h false=.ok h:=by
 unfold aN at e;split at e
 ·split at e
  ·cases e
  ·cases ha:kD ((s.drop 1).dropLast)with
   | none=>rw[ha]at e;cases e
   | some a=>
     rw[ha]at e;simp only[Option.map_some,ofO]at e;injection e with e
     rw[<-e];obtain⟨h8,hl⟩:=Bn ha;exact xo a h8 hl false
 ·rw[if_neg (by simp)]at e;split at e
  ·cases e
  ·rename_i hb;injection e with e
   rw[<-e];exact D4 (by simpa using hb)
theorem lL (s:Bs) (n:Nat) (e:aN s true=.er n):n=70\/n=71\/n=72:=by
 unfold aN eV ofO at e;simp only at e
 repeat' split at e
 all_goals first |(injection e with e;omega)|cases e|(rename_i h;cases h)
theorem oL (s:Bs) (n:Nat) (e:aN s false=.er n):n=70\/n=72:=by
 unfold aN ofO at e
 repeat' split at e
 all_goals first |(injection e with e;omega)|cases e|(rename_i h;cases h)
def kO (b n:Nat):Bs:=if _h:n<b\/b<2 then[ja n]else kO b (n / b)++[ja (n%b)]
 termination_by n
 decreasing_by exact Nat.div_lt_self (by omega) (by omega)
theorem uo {b n:Nat} (h:n<b):kO b n=[ja n]:=by rw[kO,dif_pos (Or.inl h)]
theorem Ab {b n:Nat} (hb:2<=b) (h:¬n<b):kO b n=kO b (n / b)++[ja (n%b)]:=by rw[kO,dif_neg (by omega)]
theorem K1 (n:Nat):kO 16 n=iz n:=by
 induction n using Nat.strongRecOn with
 | ind n ih=>
   by_cases h:n<16
   ·rw[uo h,kX h]
   ·rw[Ab (by omega) h,rn h,ih (n / 16) (by omega)]
def ipP (s:Bs):Bool:=match aN s true with
 | .ok h=>h==s&&(s[0]? ==some 91||cu s)
 | .er _=>false
end Lz
namespace Lz
theorem U5 (x:Nat):x&&& 15=x%16:=Nat.and_two_pow_sub_one_eq_mod x 4
end Lz
namespace Go.Proofs.YtecoeebjaleeiaaGreatDoor
open Go.RowKit
theorem RY (w:World):Calls Tryz.prog 210 #[.int .i64 16] w fun e w'=>e=.returned (.bool true)/\w=w':=by
 go_enter Tryz.func210,Tryz.ntmps210
 go_wp2
 go_ret;exact⟨rfl,rfl⟩
theorem Ro:IntKind.u64.wrap (bits BinOp.and IntKind.u64 16 (IntKind.u64.wrap (-16))*285870213051353865) / 288230376151711744=15:=by decide +kernel
theorem Rr (w:World) (h:w.cell? ⟨12,15,none⟩=some (.int .u8 4)):Calls Tryz.prog 251 #[.int .u64 16] w fun e w'=>e=.returned (.int .i64 4)/\w=w':=by
 have hx:=Ro;go_enter Tryz.func251,Tryz.ntmps251
 go_wp2
 go_ret;exact⟨rfl,rfl⟩
theorem Y0 (w:World) (h:w.cell? ⟨12,15,none⟩=some (.int .u8 4)):Calls Tryz.prog 211 #[.int .u64 16] w fun e w'=>e=.returned (.int .i64 4)/\w=w':=by
 go_enter Tryz.func211,Tryz.ntmps211
 go_wp2_with fail
 refine(Rr _ h).mono ?_;rintro e w' ⟨rfl,rfl⟩
 go_wp2
 go_ret;exact⟨rfl,rfl⟩
def abv (l:List UInt8) (w:World) (e:Ending) (w':World):Prop:=∃(u:ByteArray) (v:Value),e=.returned (.tuple #[v,.string u])/\Hid (u.data.toList=l)/\Below w.heap.size w w'
theorem Uv:Tryz.zeroCells275=((List.replicate 65 (0:UInt8)).map fun c=>Value.int .u8 (c.toNat:Int)).toArray:=by kernel_rfl
theorem yJ (w:World) (l:List UInt8) (T:TypeId):jA (w.alloc (.cells (l.map fun c=>Value.int .u8 (c.toNat:Int)).toArray T)) w.heap.size l:=by
 intro j c h;refine⟨?_,?_⟩
 ·rw[World.cell?_alloc_mark];simp[h]
 ·simp
theorem QR (b:Nat) (hb:8<=b) (u m n:Nat) (hu:b<=u) (h:u*b^m<=n) (hn:n<=1099511627776):m+1<=13:=by
 rcases Nat.lt_or_ge m 13 with h1|h1
 ·omega
 ·exfalso
  have h2:8^13<=b^m:=Nat.le_trans (Nat.pow_le_pow_left hb 13) (Nat.pow_le_pow_right (by omega) h1);have h3:8*8^13<=u*b^m:=Nat.mul_le_mul (by omega) h2;omega
theorem Zl:∀d:Fin 16,(⟨#[48,49,50,51,52,53,54,55,56,57,97,98,99,100,101,102,103,104,105,106,107,108,109,110,111,112,113,114,115,116,117,118,119,120,121,122]⟩:ByteArray)[d.val]'(Nat.lt_trans d.isLt (by decide))=Lz.ja d.val:=by decide +kernel
theorem Y8 (d:Nat) (h:d<16) {h':d<(⟨#[48,49,50,51,52,53,54,55,56,57,97,98,99,100,101,102,103,104,105,106,107,108,109,110,111,112,113,114,115,116,117,118,119,120,121,122]⟩:ByteArray).size}:(⟨#[48,49,50,51,52,53,54,55,56,57,97,98,99,100,101,102,103,104,105,106,107,108,109,110,111,112,113,114,115,116,117,118,119,120,121,122]⟩:ByteArray)[d]'h'=Lz.ja d:=Zl ⟨d,h⟩
theorem GH (n:Nat) (hn:n<=1099511627776) (w:World) (h:w.cell? ⟨12,15,none⟩=some (.int .u8 4)):Calls Tryz.prog 175 #[.slice none 0 0,.int .u64 n,.int .i64 16,.bool false,.bool false] w (abv (Lz.kO 16 n) w):=by
 have ln:=yJ w (List.replicate 65 0) 275;rw[<-Uv]at ln;have ku:Below w.heap.size w (w.alloc (.cells Tryz.zeroCells275 275)):=(Below.refl _ w).alloc (Nat.le_refl _) _
 have h':(w.alloc (.cells Tryz.zeroCells275 275)).cell? ⟨12,15,none⟩=some (.int .u8 4):=by
  rw[World.cell?_alloc_lt _ _ ⟨12,15,none⟩ (World.block_lt_of_cell? _ _ h)];exact h
 have Hm:=Ih ln;have H0:=Ih ku;have Ht:=Ih h';have HN:=Ih hn;clear ln ku h' h;go_enter Tryz.func175,Tryz.ntmps175
 go_wp2_with fail
 refine(RY _).mono ?_;rintro e w' ⟨rfl,rfl⟩
 go_wp2_with fail
 refine(Y0 _ Ht.out).mono ?_;rintro e w' ⟨rfl,rfl⟩;have PA:=Hm.out;have lW:=H0.out;generalize w.alloc (.cells Tryz.zeroCells275 275)=wx at PA lW⊢;clear Hm H0 Ht
 go_wp2_with fail
 go_loopw [1,13] (fun a i wr=>∃(u:Nat) (D L:List UInt8),D.length<=13/\u<=1099511627776/\a=.int .u64 u/\i=.int .i64 ((65-D.length:Nat):Int)/\jA wr w.heap.size L/\Hid (L.length=65)/\Hid (L.drop (65-D.length)=D)/\Hid (Lz.kO 16 n=Lz.kO 16 u++D)/\Hid (u*16^D.length<=n)/\Below w.heap.size w wr) (fun a _ _=>(intOf a).toNat)
 case atStart=>exact⟨n,[],List.replicate 65 0,by simp,HN.out,rfl,rfl,PA,Ih (by simp),Ih (by simp),Ih (by simp),Ih (by simp),lW⟩
 case round=>
  clear PA lW;obtain⟨u,D,L,hD,hu,rfl,rfl,aZ,hL,hLD,hE,pI,hb⟩:=hrel;obtain⟨i,hi⟩:∃i:Nat,i=64-D.length:=⟨_,rfl⟩;have V6:65-D.length=i+1:=by omega
  have hi2:i<65:=by omega
  rw[V6];have aaG:Hid (L.drop (i+1)=D):=by show _=_;have:=hLD.out;rw[V6]at this;exact this
  obtain⟨c0,qP⟩:∃c,L[i]? =some c:=⟨_,List.getElem?_eq_getElem (by rw[hL.out];exact hi2)⟩;obtain⟨iD,su⟩:=aZ i c0 qP;have hi3:((i+1:Nat):Int)-1=i:=by omega
  have hi4:(0:Int)<=i:=by omega
  have hi5:(i:Int)<65:=by omega
  have lj:∀c:UInt8,jA (wr.setCell ⟨w.heap.size,i,none⟩ (.int .u8 (c.toNat:Int))) w.heap.size (L.set i c)/\(L.set i c).length=65/\(L.set i c).drop i=c::D:=fun c=>by
   refine⟨aZ.set i c,by rw[List.length_set];exact hL.out,?_⟩;rw[List.drop_eq_getElem_cons (by rw[List.length_set,hL.out];exact hi2),List.getElem_set_self,List.drop_set_of_lt (by omega),aaG.out]
  have LG:=Ih lj;have Hi:=Ih hi;clear lj V6 hLD aaG qP aZ hL hi;by_cases WF:u<16
  ·have Wu:(u:Int)<16:=by omega
   have mP:Hid (Lz.kO 16 n=Lz.ja u::D):=by
    show _=_;rw[hE.out,Lz.uo WF];rfl
   clear hE pI
   go_upto_region 25 with fail
   rw[Y8 u (by omega)];obtain⟨r1,r2,r3⟩:=LG.out (Lz.ja u);have az:=hb.setCell (Nat.le_refl _) (p:=⟨w.heap.size,i,none⟩) (.int .u8 ((Lz.ja u).toNat:Int));generalize wr.setCell ⟨w.heap.size,i,none⟩ (.int .u8 ((Lz.ja u).toNat:Int))=w2 at r1 az⊢;have jd:Tryz.prog.arrayLen 275=65:=by simp[Program.arrayLen,Tryz.underlying275]
   have zr:∀W,(Instr.sliceAt 275 (.pointer (some ⟨w.heap.size,0,none⟩)) (some (.int .i64 (i:Int))) none none).run Tryz.prog W=.ok (.slice (some ⟨w.heap.size,i,none⟩) (65-i) (65-i)) W:=fun W=>by
    rw[run_sliceAt_array_l W 275 ⟨w.heap.size,0,none⟩ (by simp[Program.arrayLen,Program.elem,Tryz.underlying275]) .i64 (i:Int) (by omega) (by rw[jd];omega)];go_simp;intro h;omega
   have pJ:∀W,W=w2->(convert 75 9 (.slice (some ⟨w.heap.size,i,none⟩) (65-i) (65-i))).run Tryz.prog W=.ok (.string ⟨(Lz.ja u::D).toArray⟩) W:=by
    rintro W rfl
    have hc:=run_convert_bytes_back (P:=Tryz.prog) W 75 9 5 ⟨w.heap.size,i,none⟩ (65-i) (Lz.ja u::D) Tryz.underlying75 Tryz.underlying5 Tryz.underlying9 (by
     intro j hj;have hg:((L.set i (Lz.ja u)).drop i)[j]? =some (Lz.ja u::D)[j]:=by rw[r3];exact List.getElem?_eq_getElem hj
     rw[List.getElem?_drop]at hg;have:=(r1 (i+j) _ hg).1;rw[show(⟨w.heap.size,i,none⟩:Addr).add j=⟨w.heap.size,i+j,none⟩ by simp[Addr.add]];exact this)
    rw[show(Lz.ja u::D).length=65-i by rw[List.length_cons,Hi.out];omega]at hc;exact hc
   have Z9:=pJ w2 rfl;clear jd pJ r1 r3 LG iD su
   go_wp2
   go_ret2
   exact⟨_,_,rfl,Ih (by rw[mP.out]),az⟩
  ·have hug:(16:Int)<=(u:Int):=by omega
   have hd:=Lz.Ab (b:=16) (n:=u) (by omega) WF
   have mP:Hid (Lz.kO 16 n=Lz.kO 16 (u / 16)++(Lz.ja (u%16)::D)):=by
    show _=_;rw[hE.out,hd];simp
   have E1:Hid (u / 16*16^(Lz.ja (u%16)::D).length<=n):=by
    show _<=_;refine Nat.le_trans ?_ pI.out;rw[List.length_cons,Nat.pow_succ,Nat.mul_comm (16^_) 16,<-Nat.mul_assoc];exact Nat.mul_le_mul_right _ (Nat.div_mul_le_self u 16)
   have hD2:D.length+1<=13:=QR 16 (by omega) u D.length n (by omega) pI.out HN.out;have aad:bits .and .u64 (u:Int) 15=((u%16:Nat):Int):=by rw[show(15:Int)=((15:Nat):Int)from rfl,u64_and_nat _ _ (by omega) (by omega),Lz.U5]
   have Pq:u%16<16:=by omega
   generalize u%16=d at aad Pq mP E1;clear hd hE pI
   go_wp2_with fail
   rw[Y8 d Pq]
   go_roundw
   case rel=>
    obtain⟨r1,r2,r3⟩:=LG.out (Lz.ja d);exact⟨u / 16,Lz.ja d::D,L.set i (Lz.ja d),by simpa using hD2,by omega,by go_num,by rw[List.length_cons,Hi.out];congr 2;omega,r1,r2,Ih (by rw[List.length_cons,show 65-(D.length+1)=i by rw[Hi.out];omega];exact r3),mP,E1,hb.setCell (Nat.le_refl _) _⟩
   case measure=>simp[intOf];omega
theorem vY (n:Nat) (hn:n<=1099511627776) (w:World) (h:w.cell? ⟨12,15,none⟩=some (.int .u8 4)):Calls Tryz.prog 285 #[.int .u64 n,.int .i64 16] w (gJ (Lz.kO 16 n) w):=by
 have cF:=Ih (GH n hn w h);go_enter Tryz.func285,Tryz.ntmps285
 go_wp2_with fail
 refine(cF.out).mono ?_;rintro e w1 ⟨u,v,rfl,hu,hb⟩
 go_wp2
 go_ret;exact⟨u,rfl,hu,hb⟩
theorem yT (n:Nat) (hn:n<=1099511627776) (w:World) (h:w.cell? ⟨12,15,none⟩=some (.int .u8 4)):Calls Tryz.prog 273 #[.int .u64 n,.int .i64 16] w (gJ (Lz.kO 16 n) w):=by
 have cF:=Ih (vY n hn w h);go_enter Tryz.func273,Tryz.ntmps273
 go_wp2_with fail
 refine(cF.out).mono ?_;rintro e w1 ⟨u,rfl,hu,hb⟩
 go_wp2
 go_ret;exact⟨u,rfl,hu,hb⟩
end Go.Proofs.YtecoeebjaleeiaaGreatDoor
namespace Go.Proofs
open Go.Shelf
open Go.RowKit in
theorem Tryz.strings_Join_none (a:Option Addr) (c:Nat) (sep:ByteArray) (w:World):
 Calls Tryz.prog 232 #[.slice a 0 c,.string sep] w fun e w'=>e=.returned (.string ⟨#[]⟩)/\w'=w:=Any.strings_Join_none Tryz.lays156 Tryz.Builder_Extra_156 a c sep w
def Tryz.lays119_ren:Go.Shelf.Ren:=⟨fun|119=>166|n=>n,fun|21=>21|4=>4|n=>n,fun|n=>n⟩
theorem Tryz.lays119:Go.Proofs.Lays.n119 Tryz.prog Tryz.lays119_ren:=by repeat' first |kernel_rfl|(intro w;rfl)|(intro w;kernel_rfl)|decide|constructor
theorem Tryz.utf8_ValidRune (r:Int) (w:World):
 Calls Tryz.prog 166 #[.int .i32 r] w fun e w'=>e=.returned (.bool (Lib.validRune r))/\w'=w:=Any.utf8_ValidRune Tryz.lays119 r w
end Go.Proofs
namespace Lz
open Go
theorem vC (s:ByteArray) (pos:Nat) (h:pos<s.size) (hb:128<=(s[pos]'h).toNat):128<=(Utf8.decode s pos).1:=by
 rw[Lib.decode_at]
 have h0:(s.get! pos).toNat=(s[pos]'h).toNat:=by
  congr 1;show s.data[pos]! =_;rw[getElem!_pos s.data pos h];rfl
 rcases Lib.decodeN_shape (s.size-pos) (s.get! pos).toNat (s.get! (pos+1)).toNat (s.get! (pos+2)).toNat (s.get! (pos+3)).toNat with⟨h1,_⟩|⟨_,_,_,h2,h3⟩|⟨_,_,_,_,h2,_,h3⟩|⟨_,_,_,_,_,h2,_,h3⟩|h3
 ·omega
 ·rw[h3];exact h2
 ·rw[h3];show 128<=_;omega
 ·rw[h3];show 128<=_;omega
 ·rw[h3];show 128<=65533;omega
theorem BQ {p:Nat->Bool} {q:UInt8->Bool} (hp:∀x,128<=x->p x=true) (hq:∀c:UInt8,c.toNat<128->p c.toNat=q c) (bQ:∀c:UInt8,128<=c.toNat->q c=true) (s:ByteArray):
  ∀(f pos:Nat),s.size<=pos+f->decide (0<=Lib.idxFuncFrom p true s f pos)=(s.data.toList.drop pos).any q
 | 0,pos,h=>by
   rw[List.drop_eq_nil_of_le (by show s.size<=pos;omega)];rfl
 | f+1,pos,h=>by
   rw[Lib.idxFuncFrom];by_cases kN:pos<s.size
   ·rw[if_pos kN]
    have hd:s.data.toList.drop pos=s[pos]::s.data.toList.drop (pos+1):=by
     rw[List.drop_eq_getElem_cons (show pos<s.data.toList.length from kN)];rfl
    rw[hd,List.any_cons];rcases Nat.lt_or_ge (s[pos]'kN).toNat 128 with h1|h1
    ·have abO:=decode_ascii s pos kN h1;rw[abO,hq _ h1];cases hqc:q s[pos]with
     | true=>simp
     | false=>
       simp only[Bool.false_eq_true,if_false,Bool.false_or];exact BQ hp hq bQ s f (pos+1) (by omega)
    ·rw[hp _ (vC s pos kN h1),bQ _ h1]
     simp
   ·rw[if_neg kN,List.drop_eq_nil_of_le (by show s.size<=pos;omega)];rfl
theorem wN (l chars:Bs):Lib.containsAny l chars=l.any chars.contains:=by
 unfold Lib.containsAny
 induction l with
 | nil=>rfl
 | cons b r ih=>
   have Iv:=Lib.indexAny_ge chars r;rw[Lib.indexAny,List.any_cons,<-ih];by_cases h:chars.contains b=true
   ·rw[if_pos h,h];simp
   ·rw[if_neg h];have h2:chars.contains b=false:=by simpa using h
    rw[h2,Bool.false_or,Bool.eq_iff_iff,decide_eq_true_eq,decide_eq_true_eq];by_cases h3:Lib.indexAny r chars= -1
    ·rw[h3];simp
    ·rw[if_neg (by simpa using h3)];omega
end Lz
namespace Go.Proofs.YtecoeebjaleeiaaGreatDoor
open Go.RowKit
theorem UW (a:Option Addr) (c:Nat) (sep:ByteArray) (w:World):Calls Tryz.prog 232 #[.slice a 0 c,.string sep] w (gJ [] w):=by
 refine(Tryz.strings_Join_none a c sep w).mono ?_;rintro e w' ⟨h1,rfl⟩;exact⟨_,h1,Ih rfl,Below.refl _ _⟩
theorem EV (s p:ByteArray) (hs:s.size<=1073741824) (w:World) (hE:dQ w):Calls Tryz.prog 24 #[.string s,.string p] w (rZ (Lib.cut s.data.toList p.data.toList).1 (Lib.cut s.data.toList p.data.toList).2.1 (Lib.cut s.data.toList p.data.toList).2.2 w):=by
 obtain⟨m,hm⟩:=hE.ml;exact(Tryz.strings_Cut s p m w (by omega) hm).mono fun _ _ ⟨he,n,hw⟩=>⟨_,_,he,rfl,rfl,by rw[hw];exact below_drewN (Below.refl _ _) n⟩
def yF (x:Nat):Bool:=if x<128 then Lz.rL (UInt8.ofNat x)else true
def nk:ByteArray:=⟨#[0,9,10,13,32,35,47,58,60,62,63,64,91,92,93,94,124]⟩
theorem Ka:∀x:Fin 128,32<x.val->x.val<127->x.val≠37->decide (0<=Lib.indexByte nk.data.toList x.val.toUInt8)=Lz.rL (UInt8.ofNat x.val):=by decide +kernel
theorem Vv:∀x:Fin 128,(x.val<=32\/127<=x.val\/x.val=37)->Lz.rL (UInt8.ofNat x.val)=true:=by decide +kernel
theorem Mu (x:Nat) (hx:x<=1114111) (w:World):Calls Tryz.prog 245 #[.int .i32 (x:Int)] w fun e w'=>e=.returned (.bool (yF x))/\Below w.heap.size w w':=by
 by_cases h:x<=32\/127<=x\/x=37
 ·have hp:yF x=true:=by
   unfold yF;split
   ·exact Vv ⟨x,by assumption⟩ h
   ·rfl
  rw[hp];rcases Nat.lt_or_ge 32 x with h1|h1
  ·have SH:¬(x:Int)<=32:=by omega
   have h1b:decide ((x:Int)<=32)=false:=decide_eq_false SH;rcases Nat.lt_or_ge x 127 with h2|h2
   ·have h3:x=37:=by omega
    have Jx:decide (127<=(x:Int))=false:=decide_eq_false (by omega);have h3b:((x:Int)==37)=true:=by rw[h3];rfl
    have LB:¬127<=(x:Int):=by omega
    clear h h3 hp;go_enter Tryz.func245,Tryz.ntmps245
    go_wp2
    go_ret;exact⟨rfl,Below.refl _ _⟩
   ·have Jx:decide (127<=(x:Int))=true:=decide_eq_true (by omega);have LB:127<=(x:Int):=by omega
    clear h hp;go_enter Tryz.func245,Tryz.ntmps245
    go_wp2
    go_ret;exact⟨rfl,Below.refl _ _⟩
  ·have SH:(x:Int)<=32:=by omega
   have h1b:decide ((x:Int)<=32)=true:=decide_eq_true SH;clear h hp;go_enter Tryz.func245,Tryz.ntmps245
   go_wp2
   go_ret;exact⟨rfl,Below.refl _ _⟩
 ·have hp:yF x=decide (0<=Lib.indexByte nk.data.toList x.toUInt8):=by
   unfold yF;rw[if_pos (by omega)];exact(Ka ⟨x,by omega⟩ (by show 32<x;omega) (by show x<127;omega) (by show x≠37;omega)).symm
  have cC:=Tryz.strings_ContainsRune_ascii nk (x:Int) w (by omega) (by omega);rw[show((x:Int)).toNat=x by omega,<-hp]at cC;have CC:=Ih cC;have SH:¬(x:Int)<=32:=by omega
  have h1b:decide ((x:Int)<=32)=false:=decide_eq_false SH;have LB:¬127<=(x:Int):=by omega
  have Jx:decide (127<=(x:Int))=false:=decide_eq_false LB;have h3b:((x:Int)==37)=false:=beq_eq_false_iff_ne.2 (by omega);clear h hp cC;go_enter Tryz.func245,Tryz.ntmps245
  go_wp2_with fail
  refine(CC.out).mono ?_;rintro e w' ⟨rfl,rfl⟩
  go_wp2
  go_ret;exact⟨rfl,Below.refl _ _⟩
theorem QK (x:Nat) (h:128<=x):yF x=true:=by unfold yF;rw[if_neg (by omega)]
theorem Q2 (c:UInt8) (h:c.toNat<128):yF c.toNat=Lz.rL c:=by unfold yF;rw[if_pos h];simp
theorem UJ:∀c:UInt8,128<=c.toNat->Lz.rL c=true:=Lz.aJ (by decide +kernel)
theorem QL (args:Array Value) (w:World):(callFunc 245 args).run Tryz.prog w=.ok (.enter 245 args) w:=enters_of Tryz.func245 (by kernel_rfl) rfl args w
theorem yV (s:ByteArray) (w:World):Calls Tryz.prog 87 #[.string s,.func (.func 245) #[] #[]] w fun e w'=>∃i:Int,e=.returned (.int .i64 i)/\Hid (decide (0<=i)=s.data.toList.any Lz.rL)/\Below w.heap.size w w':=by
 refine(Tryz.strings_IndexFunc_grows 245 #[] QL yF s w (fun W x hx _=>Mu x hx W)).mono ?_;rintro e w' ⟨he,hb⟩;refine⟨_,he,Ih ?_,hb⟩;have:=Lz.BQ QK Q2 UJ s s.size 0 (by omega);rw[List.drop_zero]at this;exact this
end Go.Proofs.YtecoeebjaleeiaaGreatDoor
