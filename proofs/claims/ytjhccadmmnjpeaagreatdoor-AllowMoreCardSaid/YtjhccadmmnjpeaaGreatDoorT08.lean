/-
  The contracts of the library that the walks of this seat lean on, at this dump: each one application of a summary that the kit proves.
-/
import Derived.Test.YtjhccadmmnjpeaaGreatDoorT07
import Derived.Deep.DeepCutAuto
import Derived.Stop.Asserts
import Derived.RowKitTokens
import Derived.StillTailTactics
import Derived.Shelf.Strings.SlTrimAscii
set_option maxHeartbeats 1000000
set_option maxRecDepth 100000
namespace Go.Proofs
open Go.Shelf
def Tryz.lays156_ren:Go.Shelf.Ren:=⟨fun|156=>224|165=>254|166=>71|169=>61|240=>92|241=>286|276=>143|277=>308|n=>n,fun|31=>22|9=>9|3=>3|4=>4|0=>0|20=>20|72=>72|76=>94|70=>70|37=>30|75=>57|127=>135|164=>159|5=>5|80=>76|n=>n,fun|n=>n⟩
theorem Tryz.lays156:Go.Proofs.Lays.n156 Tryz.prog Tryz.lays156_ren:=by repeat' first |kernel_rfl|(intro w;rfl)|(intro w;kernel_rfl)|decide|constructor
theorem Tryz.Builder_Extra_156:Builder.Extra Tryz.prog Tryz.lays156_ren:=by repeat' first |kernel_rfl|(intro w;rfl)|(intro w;kernel_rfl)|decide|constructor
open Go.RowKit in
theorem Tryz.strings_Join (bk o c:Nat) (xs:List ByteArray) (sep:ByteArray) (w:World) (hcells:∀(j:Nat) x,xs[j]? =some x->w.cell? ⟨bk,o+j,none⟩=some (.string x)) (hbk:bk<w.heap.size) (hN:xs.length<=140737488355328) (hcap:xs.length<=c) (hlen:(Lib.join (xs.map (·.data.toList)) sep.data.toList).length<=140737488355328):
 Calls Tryz.prog 224 #[.slice (some ⟨bk,o,none⟩) xs.length c,.string sep] w fun e w'=>e=.returned (.string ⟨(Lib.join (xs.map (·.data.toList)) sep.data.toList).toArray⟩)/\Below w.heap.size w w':=Any.strings_Join Tryz.lays156 Tryz.Builder_Extra_156 bk o c xs sep w hcells hbk hN hcap hlen
def Tryz.lays160_ren:Go.Shelf.Ren:=⟨fun|160=>282|232=>255|231=>166|227=>167|234=>256|233=>168|236=>257|235=>169|228=>213|271=>239|151=>154|197=>205|120=>269|152=>207|260=>240|137=>111|119=>241|224=>202|225=>201|217=>171|266=>215|n=>n,fun|9=>9|4=>4|3=>3|5=>5|117=>189|116=>188|0=>0|124=>192|21=>21|105=>236|46=>74|119=>226|139=>290|138=>289|n=>n,fun|3=>6|4=>7|n=>n⟩
theorem Tryz.lays160:Go.Proofs.Lays.n160 Tryz.prog Tryz.lays160_ren:=by repeat' first |kernel_rfl|(intro w;rfl)|(intro w;kernel_rfl)|decide|constructor
def Tryz.laysPu14_ren:Go.Shelf.Ren:=⟨fun|14=>318|16=>309|17=>259|19=>316|20=>317|21=>288|22=>289|23=>290|24=>291|25=>310|27=>112|26=>311|28=>172|29=>216|30=>247|31=>248|32=>249|33=>250|35=>277|34=>276|36=>278|37=>279|38=>280|39=>306|40=>307|n=>n,fun|9=>9|3=>3|22=>83|24=>57|25=>305|4=>4|34=>309|5=>5|36=>74|37=>30|0=>0|39=>312|21=>21|44=>328|47=>135|50=>337|48=>335|2=>2|52=>270|55=>273|59=>302|60=>73|20=>20|61=>303|65=>333|66=>334|67=>76|n=>n,fun|0=>9|1=>10|2=>8|3=>11|4=>12|n=>n⟩
theorem Tryz.laysPu14:Go.Proofs.LaysPu.n14 Tryz.prog Tryz.laysPu14_ren:=by repeat' first |kernel_rfl|(intro w;rfl)|(intro w;kernel_rfl)|decide|constructor
open Go.RowKit in
theorem Tryz.strconv_ParseUint_10_at8_ok (s:ByteArray) (hmax:s.size<=9223372036854775806) (u:Nat) (h:Lib.parseUintB 8 s.data.toList=.ok u) (w:World):
 Calls Tryz.prog 318 #[.string s,.int .i64 10,.int .i64 8] w fun e w'=>e=.returned (.tuple #[.int .u64 u,.nilIface])/\(w'=w\/w'=Lib.bytesWorld w 5 s):=Any.strconv_ParseUint_10_at8_ok Tryz.laysPu14 s hmax u h w
open Go.RowKit in
theorem Tryz.strconv_ParseUint_10_at8_syntax (s:ByteArray) (hlim:s.size<=281474976710656) (h:Lib.parseUintB 8 s.data.toList=Lib.parseUintB 8 []) (ev:Value) (w:World) (hv:w.cell? ⟨9,0,none⟩=some ev) (hev:ev=.nilIface\/∃te pe,ev=.iface te pe):
 Calls Tryz.prog 318 #[.string s,.int .i64 10,.int .i64 8] w fun e w'=>∃N,e=.returned (.tuple #[.int .u64 0,.iface 312 (.pointer (some ⟨N,0,none⟩))])/\w.heap.size<=N/\w'.heap[N]? =some (.cells #[.string ⟨#[80,97,114,115,101,85,105,110,116]⟩,.string s,ev] 328 (0,0))/\Below w.heap.size w w':=Any.strconv_ParseUint_10_at8_syntax Tryz.laysPu14 s hlim h ev w hv hev
open Go.RowKit in
theorem Tryz.strconv_ParseUint_10_at8_range (s:ByteArray) (hlim:s.size<=281474976710656) (h:Lib.parseUintB 8 s.data.toList=.range) (ev:Value) (w:World) (hv:w.cell? ⟨10,0,none⟩=some ev) (hev:ev=.nilIface\/∃te pe,ev=.iface te pe):
 Calls Tryz.prog 318 #[.string s,.int .i64 10,.int .i64 8] w fun e w'=>∃N,e=.returned (.tuple #[.int .u64 255,.iface 312 (.pointer (some ⟨N,0,none⟩))])/\w.heap.size<=N/\w'.heap[N]? =some (.cells #[.string ⟨#[80,97,114,115,101,85,105,110,116]⟩,.string s,ev] 328 (0,0))/\Below w.heap.size w w':=Any.strconv_ParseUint_10_at8_range Tryz.laysPu14 s hlim h ev w hv hev
def Tryz.lays144_ren:Go.Shelf.Ren:=⟨fun|144=>312|143=>275|219=>147|217=>171|225=>201|224=>202|267=>203|266=>215|314=>238|n=>n,fun|9=>9|4=>4|3=>3|5=>5|46=>74|146=>264|51=>73|n=>n,fun|1=>5|n=>n⟩
theorem Tryz.lays144:Go.Proofs.Lays.n144 Tryz.prog Tryz.lays144_ren:=by repeat' first |kernel_rfl|(intro w;rfl)|(intro w;kernel_rfl)|decide|constructor
open Go.RowKit Go.Lib in
theorem Tryz.strings_Contains (s sub:ByteArray) (m:Int) (w:World) (hs:s.size<4294967281) (hm:w.cell? ⟨5,0,none⟩=some (.int .i64 m)):
 Calls Tryz.prog 312 #[.string s,.string sub] w fun e w'=>e=.returned (.bool (Lib.contains s.data.toList sub.data.toList))/\w'=w:=Any.strings_Contains Tryz.lays144 s sub m w hs hm
end Go.Proofs
namespace Go.Proofs.YtjhccadmmnjpeaaGreatDoor
open Go.RowKit
def u8s (l:List UInt8):List Value:=l.map fun c=>Value.int .u8 c.toNat
theorem u8s_snoc (l:List UInt8) (c:UInt8):u8s l++[.int .u8 (c.toNat:Int)]=u8s (l++[c]):=by simp[u8s]
theorem u8s_app (l m:List UInt8):u8s l++u8s m=u8s (l++m):=by simp[u8s]
theorem Tryz.infoU8:(Tryz.prog.info? 5).map (fun i=>(i.zero,i.size,i.bytes))=some (some (.int .u8 0),1,1):=by kernel_rfl
theorem cell_one (w:World) (v:Value) (T:TypeId) (j:Nat) (u:Value) (h:[v][j]? =some u):(w.alloc (.cells #[v] T)).cell? ((⟨w.heap.size,0,none⟩:Addr).add j)=some u:=by
 rw[addr_add,World.cell?_alloc_mark];have hj:j<1:=by have:=(List.getElem?_eq_some_iff.1 h).1;simpa using this
 obtain rfl:j=0:=by omega
 simpa using h
theorem Below.grown1 {B:Nat} {a w w':World} {o:Obj} {v:Value} {base e size n:Nat} {xs:List Value} (h:Below B a w) (hown:w.ownsRow base e size v n xs) (hg:(w.alloc o).grownBy w' v.ownBlock) (hB:B<=w.heap.size) (hb:B<=base):Below B a w':=
 (h.alloc hB o).grown hg (by simp;omega) (fun k hk=>Nat.le_trans hb ((hown.alloc o).lt k hk).1)
theorem conv_nil (w:World):(convert 30 9 (.slice none 0 0)).run Tryz.prog w=.ok (.string ⟨#[]⟩) w:=by kernel_rfl
theorem conv_own {w:World} {base:Nat} {v:Value} {n:Nat} {l:List UInt8} (h:w.ownsRow base 5 1 v n (u8s l)):
  (convert 30 9 v).run Tryz.prog w=.ok (.string ⟨l.toArray⟩) w:=by
 have hl:l.length=n:=by have:=h.1;simpa [u8s]using this
 rcases h.2 with⟨rfl,h0⟩|⟨g,cap,cur,rfl,hbg,hg,hn,hcm,hcs,htk⟩
 ·obtain rfl:l=[]:=List.length_eq_zero_iff.1 (by omega);exact conv_nil w
 ·rw[<-hl];refine run_convert_bytes_back (P:=Tryz.prog) w 30 9 5 ⟨g,0,none⟩ cap l Tryz.underlying30 Tryz.underlying5 Tryz.underlying9 ?_;intro j hj;rw[addr_add]
  have h1:cur[j]? =some (.int .u8 (l[j].toNat:Int)):=by
   have h2:(u8s l)[j]? =some (.int .u8 (l[j].toNat:Int)):=by simp[u8s,hj]
   rw[<-htk,List.getElem?_take]at h2;split at h2
   ·simpa using h2
   ·cases h2
  simp[World.cell?,hg,h1]
def SlB (w:World) (v:Value) (l:List UInt8):Prop:=
 ∃a c,v=.slice a l.length c/\l.length<=9223372036854775807/\∀(j:Nat) (b:UInt8),l[j]? =some b->∃B off,a=some ⟨B,off,none⟩/\B<w.heap.size/\w.cell? ⟨B,off+j,none⟩=some (.int .u8 b.toNat)
theorem append_data' (a b:ByteArray):(a++b).data.toList=a.data.toList++b.data.toList:=by simp
end Go.Proofs.YtjhccadmmnjpeaaGreatDoor
namespace Lz
open Go
theorem zeros_zero {l:List Nat} {k:Nat} (h:l[k]? =some 0):zerosP (l.drop k)=1+zerosP (l.drop (k+1)):=by
 have hk:=(List.getElem?_eq_some_iff.1 h).1;rw[List.drop_eq_getElem_cons hk];have:l[k]=0:=(List.getElem?_eq_some_iff.1 h).2;rw[this];unfold zerosP;rw[List.takeWhile_cons]
 simp;omega
theorem zeros_non {l:List Nat} {k x:Nat} (h:l[k]? =some x) (hx:x≠0):zerosP (l.drop k)=0:=by
 have hk:=(List.getElem?_eq_some_iff.1 h).1;rw[List.drop_eq_getElem_cons hk];have:l[k]=x:=(List.getElem?_eq_some_iff.1 h).2;rw[this];unfold zerosP;rw[List.takeWhile_cons]
 simp[hx]
theorem run_step {l:List Nat} {i:Nat} (f:Nat×Nat) (hi:i<l.length):runP i (l.drop i) f=runP (i+1) (l.drop (i+1)) (if max (f.2-f.1) 1<zerosP (l.drop i)then(i,i+zerosP (l.drop i))else f):=by
 rw[List.drop_eq_getElem_cons hi];rfl
end Lz
namespace Go.Proofs.YtjhccadmmnjpeaaGreatDoor
open Go.RowKit
def sixV (l:List Nat):Value:=.agg (l.map fun n:Nat=>Value.int .u16 (n:Int)).toArray
def RRun (l:List Nat) (w:World) (e:Ending) (w':World):Prop:=e=.returned (.tuple #[.int .i64 ((Lz.runP 0 l (0,0)).1:Nat),.int .i64 ((Lz.runP 0 l (0,0)).2:Nat)])/\Below w.heap.size w w'
theorem run_any (l:List Nat) (h8:l.length=8) (w:World):Calls Tryz.prog 300 #[sixV l] w (RRun l w):=by
 unfold sixV;obtain⟨w1,hw1⟩:∃w1,w1=w.alloc (.cells (l.map fun n:Nat=>Value.int .u16 (n:Int)).toArray 296):=⟨_,rfl⟩
 have hc:∀j x,l[j]? =some x->w1.cell? ⟨w.heap.size,j,none⟩=some (.int .u16 (x:Nat)):=by
  intro j x hj;rw[hw1,World.cell?_alloc_mark]
  simp[hj]
 have hb1:Below w.heap.size w w1:=by rw[hw1];exact(Below.refl _ w).alloc (Nat.le_refl _) _
 have Hc:=Ih hc;have H8:=Ih h8;clear hc h8;go_enter Tryz.func300,Tryz.ntmps300
 go_wp2
 rw[<-hw1];clear hw1
 go_loop [2,3,6] (fun a b c=>∃i f t:Nat,i<=8/\f<=t/\t<=8/\a=.int .i64 f/\b=.int .i64 t/\c=.int .i64 i/\Hid (Lz.runP i (l.drop i) (f,t)=Lz.runP 0 l (0,0))) (fun _ _ c=>8-(intOf c).toNat)
 case atStart=>exact⟨0,0,0,by omega,by omega,by omega,rfl,rfl,rfl,Ih rfl⟩
 case round=>
  obtain⟨i,f,t,hi,hft,ht,rfl,rfl,rfl,hR⟩:=hrel;by_cases hlt:i<8
  ·have hz8:Lz.zerosP (l.drop 8)=0:=by rw[List.drop_eq_nil_of_le (by rw[H8.out];exact Nat.le_refl _)];rfl
   have Hz8:=Ih hz8;clear hz8
   go_wp2
   go_loop [5] (fun c=>∃k:Nat,i<=k/\k<=8/\c=.int .i64 k/\Hid (Lz.zerosP (l.drop i)=(k-i)+Lz.zerosP (l.drop k))) (fun c=>8-(intOf c).toNat)
   case atStart=>exact⟨i,Nat.le_refl _,by omega,rfl,by show _=_;omega⟩
   case round=>
    obtain⟨k,hik,hk,rfl,hZ⟩:=hrel;by_cases hk8:k<8
    ·obtain⟨x,hx⟩:∃x,l[k]? =some x:=⟨_,List.getElem?_eq_getElem (by rw[H8.out];exact hk8)⟩;have hcx:=Hc.out k x hx;by_cases hx0:x=0
     ·have hxb:((x:Int)==0)=true:=by rw[hx0];rfl
      have hZ2:Hid (Lz.zerosP (l.drop i)=(k+1-i)+Lz.zerosP (l.drop (k+1))):=by
       show _=_;rw[hx0]at hx;rw[hZ.out,Lz.zeros_zero hx];omega
      clear hx hx0
      go_wp2
      go_round
      case rel=>exact⟨k+1,by omega,by omega,by go_num,hZ2⟩
      case measure=>simp[intOf];omega
     ·have hxb:((x:Int)==0)=false:=beq_eq_false_iff_ne.2 (by omega);have hZ2:Hid (Lz.zerosP (l.drop i)=k-i):=by show _=_;rw[hZ.out,Lz.zeros_non hx hx0];omega
      clear hx hx0;have hst:=Lz.run_step (f,t) (show i<l.length by rw[H8.out];exact hlt);rw[hZ2.out,hR.out]at hst;have Hst:=Ih hst;clear hst;obtain⟨d,hd⟩:∃d:Nat,d=k-i:=⟨_,rfl⟩;obtain⟨g,hg⟩:∃g:Nat,g=t-f:=⟨_,rfl⟩;have hd1:(k:Int)-i=d:=by omega
      have hg1:(t:Int)-f=g:=by omega
      have hki:i+(k-i)=k:=by omega
      by_cases hm:max (t-f) 1<k-i
      ·have hm':max (g:Int) 1<d:=by omega
       have HS:Hid (Lz.runP (i+1) (l.drop (i+1)) (i,k)=Lz.runP 0 l (0,0)):=by
        show _=_;have:=Hst.out;rw[if_pos hm,hki]at this;exact this.symm
       clear hd hg hm hki
       go_wp2
       go_round
       case rel=>exact⟨i+1,i,k,by omega,hik,hk,rfl,rfl,by go_num,HS⟩
       case measure=>simp[intOf];omega
      ·have hm':¬max (g:Int) 1<d:=by omega
       have HS:Hid (Lz.runP (i+1) (l.drop (i+1)) (f,t)=Lz.runP 0 l (0,0)):=by
        show _=_;have:=Hst.out;rw[if_neg hm]at this;exact this.symm
       clear hd hg hm hki
       go_wp2
       go_round
       case rel=>exact⟨i+1,f,t,by omega,hft,ht,rfl,rfl,by go_num,HS⟩
       case measure=>simp[intOf];omega
    ·have hZ2:Hid (Lz.zerosP (l.drop i)=k-i):=by
      show _=_;have:k=8:=by omega
      have hz:=hZ.out;rw[this,Hz8.out]at hz;omega
     have hst:=Lz.run_step (f,t) (show i<l.length by rw[H8.out];exact hlt);rw[hZ2.out,hR.out]at hst;have Hst:=Ih hst;clear hst;obtain⟨d,hd⟩:∃d:Nat,d=k-i:=⟨_,rfl⟩;obtain⟨g,hg⟩:∃g:Nat,g=t-f:=⟨_,rfl⟩;have hd1:(k:Int)-i=d:=by omega
     have hg1:(t:Int)-f=g:=by omega
     have hki:i+(k-i)=k:=by omega
     by_cases hm:max (t-f) 1<k-i
     ·have hm':max (g:Int) 1<d:=by omega
      have HS:Hid (Lz.runP (i+1) (l.drop (i+1)) (i,k)=Lz.runP 0 l (0,0)):=by
       show _=_;have:=Hst.out;rw[if_pos hm,hki]at this;exact this.symm
      clear hd hg hm hki
      go_wp2
      go_round
      case rel=>exact⟨i+1,i,k,by omega,hik,hk,rfl,rfl,by go_num,HS⟩
      case measure=>simp[intOf];omega
     ·have hm':¬max (g:Int) 1<d:=by omega
      have HS:Hid (Lz.runP (i+1) (l.drop (i+1)) (f,t)=Lz.runP 0 l (0,0)):=by
       show _=_;have:=Hst.out;rw[if_neg hm]at this;exact this.symm
      clear hd hg hm hki
      go_wp2
      go_round
      case rel=>exact⟨i+1,f,t,by omega,hft,ht,rfl,rfl,by go_num,HS⟩
      case measure=>simp[intOf];omega
  ·have hi8:i=8:=by omega
   have hR2:Hid (Lz.runP 0 l (0,0)=(f,t)):=by
    show _=_;rw[<-hR.out,hi8,List.drop_eq_nil_of_le (by rw[H8.out];exact Nat.le_refl _)];rfl
   clear hi8
   go_wp2
   go_ret2
   exact⟨by rw[hR2.out];rfl,hb1⟩
end Go.Proofs.YtjhccadmmnjpeaaGreatDoor
namespace Lz
open Go
def hex1 (d:Nat):UInt8:=if d<10 then UInt8.ofNat (48+d)else UInt8.ofNat (87+d)
theorem hexV_hex1:∀d:Fin 16,hexV (hex1 d.val)=some d.val:=by decide +kernel
theorem hexV_hex {d:Nat} (h:d<16):hexV (hex1 d)=some d:=hexV_hex1 ⟨d,h⟩
theorem hexD_small {n:Nat} (h:n<16):hexD n=[hex1 n]:=by
 rw[hexD,dif_pos h,Nat.mod_eq_of_lt h];unfold hex1;rfl
theorem hexD_big {n:Nat} (h:¬n<16):hexD n=hexD (n / 16)++[hex1 (n%16)]:=by
 rw[hexD,dif_neg h];unfold hex1;rfl
def isHexD (c:UInt8):Bool:=isDigit c||(97<=c&&c<=102)
theorem hex1_is1:∀d:Fin 16,isHexD (hex1 d.val)=true:=by decide +kernel
theorem hex1_is {d:Nat} (h:d<16):isHexD (hex1 d)=true:=hex1_is1 ⟨d,h⟩
theorem hexD_chars (n:Nat):∀c∈hexD n,isHexD c=true:=by
 induction n using Nat.strongRecOn with
 | ind n ih=>
   by_cases h:n<16
   ·rw[hexD_small h];intro c hc;rw[List.mem_singleton]at hc;rw[hc];exact hex1_is h
   ·rw[hexD_big h];intro c hc;rcases List.mem_append.1 hc with hc|hc
    ·exact ih (n / 16) (by omega) c hc
    ·rw[List.mem_singleton]at hc;rw[hc];exact hex1_is (by omega)
theorem hexD_ne (n:Nat):hexD n≠[]:=by
 rw[hexD];simp
theorem hexD_len (k:Nat):∀n,n<16^(k+1)->(hexD n).length<=k+1:=by
 induction k with
 | zero=>intro n h;rw[hexD_small (by simpa using h)];simp
 | succ k ih=>
   intro n h;by_cases h1:n<16
   ·rw[hexD_small h1];simp
   ·rw[hexD_big h1];have:=ih (n / 16) (by rw[Nat.pow_succ]at h;omega);simp only[List.length_append,List.length_singleton];omega
def hexF (n:Nat) (c:UInt8):Option Nat:=(hexV c).map (n*16+·)
theorem hexD_fold (n:Nat):(hexD n).foldlM hexF 0=some n:=by
 induction n using Nat.strongRecOn with
 | ind n ih=>
   by_cases h:n<16
   ·rw[hexD_small h]
    simp[List.foldlM_cons,hexF,hexV_hex h]
   ·rw[hexD_big h,List.foldlM_append,ih (n / 16) (by omega)];simp only[Option.bind_eq_bind,Option.bind_some,List.foldlM_cons,List.foldlM_nil,hexF,hexV_hex (show n%16<16 by omega),Option.map_some];show some _=_;congr 1;omega
theorem piece_hexD {n:Nat} (h:n<65536):pieceP (hexD n)=some n:=by
 unfold pieceP;have hl:=hexD_len 3 n (by simpa using h);rw[if_neg]
 ·exact hexD_fold n
 ·rintro(h1|h1)
  ·exact hexD_ne n h1
  ·omega
theorem hexV_lt16:∀c:UInt8,∀d,hexV c=some d->d<16:=by
 intro c;revert c;have:∀c:UInt8,(match hexV c with|some d=>decide (d<16)|none=>true)=true:=byte_all (by decide +kernel);intro c d h;have:=this c;rw[h]at this;simpa using this
theorem hexF_lt {l:Bs}:∀{n m:Nat},l.foldlM hexF n=some m->m<(n+1)*16^l.length:=by
 induction l with
 | nil=>intro n m h;simp at h;simp;omega
 | cons c r ih=>
   intro n m h;rw[List.foldlM_cons]at h;unfold hexF at h;cases hc:hexV c with
   | none=>rw[hc]at h;cases h
   | some d=>
     rw[hc]at h;have hd:=hexV_lt16 c d hc;have h2:=ih (n:=n*16+d) h;rw[List.length_cons,Nat.pow_succ];have:(n*16+d+1)*16^r.length<=((n+1)*16)*16^r.length:=Nat.mul_le_mul_right _ (by omega);rw[Nat.mul_comm (16^r.length) 16,<-Nat.mul_assoc];omega
theorem pieceP_lt {x:Bs} {n:Nat} (h:pieceP x=some n):n<65536:=by
 unfold pieceP at h;split at h
 ·cases h
 ·rename_i hx;have h2:=hexF_lt (l:=x) (n:=0) (m:=n) h;have:(16:Nat)^x.length<=16^4:=Nat.pow_le_pow_right (by omega) (by omega);omega
theorem splitC_free (k:UInt8):∀l:Bs,(∀c∈l,c≠k)->splitC k l=[l]
 | [],_=>rfl
 | c::l,h=>by
   rw[splitC,if_neg (by simpa using h c (by simp)),splitC_free k l (fun x hx=>h x (by simp[hx]))]
theorem splitC_app (k:UInt8):∀(a b:Bs),(∀c∈a,c≠k)->splitC k (a++k::b)=a::splitC k b
 | [],b,_=>by simp[splitC]
 | c::a,b,h=>by
   show splitC k (c::(a++k::b))=_;rw[splitC,if_neg (by simpa using h c (by simp)),splitC_app k a b (fun x hx=>h x (by simp[hx]))]
theorem splitC_join (k:UInt8):∀ls:List Bs,ls≠[]->(∀x∈ls,∀c∈x,c≠k)->splitC k (joinP [k] ls)=ls
 | [],h,_=>absurd rfl h
 | [x],_,h=>by rw[joinP];exact splitC_free k x (h x (by simp))
 | x::y::r,_,h=>by
   rw[joinP,List.append_assoc,List.singleton_append,splitC_app k x _ (h x (by simp)),splitC_join k (y::r) (by simp) (fun z hz=>h z (by simp[hz]))]
theorem joinP_mem {sep:Bs}:∀{ls:List Bs} {c:UInt8},c∈joinP sep ls->c∈sep\/∃x∈ls,c∈x
 | [],c,h=>by simp[joinP]at h
 | [x],c,h=>Or.inr ⟨x,by simp,h⟩
 | x::y::r,c,h=>by
   rw[joinP]at h;rcases List.mem_append.1 h with h|h
   ·rcases List.mem_append.1 h with h|h
    ·exact Or.inr ⟨x,by simp,h⟩
    ·exact Or.inl h
   ·rcases joinP_mem h with h|⟨z,hz,hc⟩
    ·exact Or.inl h
    ·exact Or.inr ⟨z,by simp[hz],hc⟩
theorem joinP_ne {sep:Bs}:∀{ls:List Bs},ls≠[]->(∀x∈ls,x≠[])->joinP sep ls≠[]
 | [],h,_=>absurd rfl h
 | [x],_,h=>h x (by simp)
 | x::y::r,_,h=>by
   rw[joinP];have:=h x (by simp);cases x with
   | nil=>exact absurd rfl this
   | cons a b=>simp
theorem isHexD_not:∀c:UInt8,isHexD c=true->c≠58/\c≠46:=byte_all (by decide +kernel)
theorem hexD_not (n:Nat):∀c∈hexD n,c≠58/\c≠46:=fun c hc=>isHexD_not c (hexD_chars n c hc)
theorem told_row (last:Bool):∀l:List Nat,(∀n∈l,n<65536)->rowP last (l.map hexD)=some l
 | [],_=>rfl
 | n::l,h=>by
   have h46:(hexD n).contains 46=false:=by
    rw[Bool.eq_false_iff];intro hc;exact(hexD_not n 46 (List.contains_iff_mem.1 hc)).2 rfl
   rw[List.map_cons,rowP,h46,piece_hexD (h n (by simp)),told_row last l (fun m hm=>h m (by simp[hm]))]
   simp
theorem told_row_s (last:Bool) (l:List Nat) (h:∀n∈l,n<65536):rowS (toldP l) last=some l:=by
 unfold rowS;by_cases hl:l=[]
 ·rw[hl];rfl
 ·have hne:toldP l≠[]:=by
   unfold toldP;exact joinP_ne (by simpa using hl) (by intro x hx;obtain⟨n,_,rfl⟩:=List.mem_map.1 hx;exact hexD_ne n)
  rw[if_neg hne];unfold toldP;rw[splitC_join 58 _ (by simpa using hl) (by intro x hx c hc;obtain⟨n,_,rfl⟩:=List.mem_map.1 hx;exact(hexD_not n c hc).1)];exact told_row last l h
def oneCol:Bs->Bool
 | []=>true
 | [c]=>c != 58
 | c::d::r=>(c != 58||d != 58)&&oneCol (d::r)
theorem index_oneCol:∀(a b:Bs),oneCol a=true->Lib.index (a++58::58::b) [58,58]=a.length
 | [],b,_=>by rw[List.nil_append,show(58::58::b:Bs)=[58,58]++b from rfl,index_here _ _ (by simp)];rfl
 | [c],b,h=>by
   have hc:c≠58:=by simpa [oneCol]using h
   show Lib.index (c::([]++58::58::b)) [58,58]=_;rw[index_cons_miss hc,index_oneCol [] b rfl];rfl
 | c::d::r,b,h=>by
   simp only[oneCol,Bool.and_eq_true,Bool.or_eq_true,bne_iff_ne]at h;have ih:=index_oneCol (d::r) b h.2
   have hp:([58,58]:Bs).isPrefixOf (c::d::(r++58::58::b))=false:=by
    rw[Bool.eq_false_iff];intro hh;simp only[List.isPrefixOf,Bool.and_eq_true,beq_iff_eq]at hh;rcases h.1 with h1|h1
    ·exact h1 hh.1.symm
    ·exact h1 hh.2.1.symm
   show Lib.index (c::d::(r++58::58::b)) [58,58]=_;rw[Lib.index,hp];simp only[Bool.false_eq_true,if_false];rw[show(d::(r++58::58::b):Bs)=(d::r)++58::58::b from rfl,ih];rw[if_neg (by simp;omega)]
   simp
theorem index_oneCol_none:∀(a:Bs),oneCol a=true->Lib.index a [58,58]= -1
 | [],_=>rfl
 | [c],h=>by
   have hc:c≠58:=by simpa [oneCol]using h
   rw[index_cons_miss hc];rfl
 | c::d::r,h=>by
   simp only[oneCol,Bool.and_eq_true,Bool.or_eq_true,bne_iff_ne]at h;have ih:=index_oneCol_none (d::r) h.2
   have hp:([58,58]:Bs).isPrefixOf (c::d::r)=false:=by
    rw[Bool.eq_false_iff];intro hh;simp only[List.isPrefixOf,Bool.and_eq_true,beq_iff_eq]at hh;rcases h.1 with h1|h1
    ·exact h1 hh.1.symm
    ·exact h1 hh.2.1.symm
   rw[Lib.index,hp];simp only[Bool.false_eq_true,if_false];rw[ih];rfl
theorem oneCol_app:∀(x b:Bs),(∀c∈x,c≠58)->x≠[]->oneCol b=true->b.head? ≠some 58->oneCol (x++b)=true
 | [],_,_,h,_,_=>absurd rfl h
 | [c],[],h,_,_,_=>by simpa [oneCol]using h c (by simp)
 | [c],d::r,h,_,hb,_=>by
   show oneCol (c::d::r)=true;rw[oneCol,hb];simpa using Or.inl (h c (by simp))
 | c::d::r,b,h,_,hb,hh=>by
   show oneCol (c::d::(r++b))=true;rw[oneCol,show(d::(r++b):Bs)=(d::r)++b from rfl,oneCol_app (d::r) b (fun z hz=>h z (by simp[hz])) (by simp) hb hh];simpa using Or.inl (h c (by simp))
theorem oneCol_sep:∀(x b:Bs),(∀c∈x,c≠58)->x≠[]->oneCol b=true->b≠[]->b.head? ≠some 58->oneCol (x++58::b)=true
 | [],_,_,h,_,_,_=>absurd rfl h
 | [c],[],_,_,_,h,_=>absurd rfl h
 | [c],d::r,h,_,hb,_,hh=>by
   show oneCol (c::58::d::r)=true;have hd:d≠58:=by simpa using hh
   rw[oneCol,oneCol,hb]
   simp[h c (by simp),hd]
 | c::d::r,b,h,_,hb,hn,hh=>by
   show oneCol (c::d::(r++58::b))=true;rw[oneCol,show(d::(r++58::b):Bs)=(d::r)++58::b from rfl,oneCol_sep (d::r) b (fun z hz=>h z (by simp[hz])) (by simp) hb hn hh];simpa using Or.inl (h c (by simp))
theorem told_head (l:List Nat):(toldP l).head? ≠some 58:=by
 unfold toldP
 match l with
 | []=>simp[joinP]
 | [n]=>
   show(hexD n).head? ≠_;intro h;cases hx:hexD n with
   | nil=>rw[hx]at h;cases h
   | cons c r=>rw[hx]at h;exact(hexD_not n c (by rw[hx];simp)).1 (by simpa using h)
 | n::m::r=>
   show(hexD n++[58]++_).head? ≠_;intro h;cases hx:hexD n with
   | nil=>exact hexD_ne n hx
   | cons c r=>rw[hx]at h;exact(hexD_not n c (by rw[hx];simp)).1 (by simpa using h)
theorem told_ne {l:List Nat} (h:l≠[]):toldP l≠[]:=by
 unfold toldP;exact joinP_ne (by simpa using h) (by intro x hx;obtain⟨n,_,rfl⟩:=List.mem_map.1 hx;exact hexD_ne n)
theorem told_col:∀l:List Nat,oneCol (toldP l)=true
 | []=>rfl
 | [n]=>by
   have:=oneCol_app (hexD n) [] (fun c hc=>(hexD_not n c hc).1) (hexD_ne n) rfl (by simp);rw[List.append_nil]at this;exact this
 | n::m::r=>by
   show oneCol (hexD n++[58]++toldP (m::r))=true;rw[List.append_assoc,List.singleton_append];exact oneCol_sep _ _ (fun c hc=>(hexD_not n c hc).1) (hexD_ne n) (told_col (m::r)) (told_ne (by simp)) (told_head _)
theorem cut_told (l r:List Nat):Lib.cut (toldP l++[58,58]++toldP r) [58,58]=(toldP l,toldP r,true):=by
 have h:=index_oneCol (toldP l) (toldP r) (told_col l);unfold Lib.cut;rw[show toldP l++[58,58]++toldP r=toldP l++58::58::toldP r by simp,h];rw[if_pos (by omega)]
 simp
theorem cut_none (l:List Nat):Lib.cut (toldP l) [58,58]=(toldP l,[],false):=cut_miss _ _ (index_oneCol_none _ (told_col l))
def RunOk (a:List Nat) (f:Nat×Nat):Prop:=f=(0,0)\/(f.1+2<=f.2/\f.2<=a.length/\∀k,f.1<=k->k<f.2->a[k]? =some 0)
theorem zeros_all (l:List Nat):zerosP l<=l.length/\∀k,k<zerosP l->l[k]? =some 0:=by
 unfold zerosP
 induction l with
 | nil=>simp
 | cons x r ih=>
   rw[List.takeWhile_cons];by_cases h:x=0
   ·simp only[h,beq_self_eq_true,if_true,List.length_cons];refine⟨by omega,fun k hk=>?_⟩;cases k with
    | zero=>rfl
    | succ k=>simpa using ih.2 k (by omega)
   ·simp[h]
theorem run_ok (a:List Nat):∀(n i:Nat) (f:Nat×Nat),a.length-i=n->RunOk a f->RunOk a (runP i (a.drop i) f):=by
 intro n
 induction n with
 | zero=>intro i f hn hf;rw[List.drop_eq_nil_of_le (by omega)];exact hf
 | succ n ih=>
   intro i f hn hf;have hi:i<a.length:=by omega
   have hd:=List.drop_eq_getElem_cons hi;rw[hd,runP,<-hd];refine ih (i+1) _ (by omega) ?_;split
   ·rename_i hm;have hz:=zeros_all (a.drop i);rw[List.length_drop]at hz;refine Or.inr ⟨by show i+2<=i+zerosP _;omega,by show i+zerosP _<=_;omega,fun k h1 h2=>?_⟩;have:=hz.2 (k-i) (by show k-i<zerosP _;have:k<i+zerosP (a.drop i):=h2;have:i<=k:=h1;omega);rw[List.getElem?_drop,show i+(k-i)=k by have:i<=k:=h1;omega]at this;exact this
   ·exact hf
theorem run_ok0 (a:List Nat):RunOk a (runP 0 a (0,0)):=by
 have:=run_ok a _ 0 (0,0) rfl (Or.inl rfl)
 rwa [List.drop_zero]at this
theorem six_back (a:List Nat) (h8:a.length=8) (hl:∀n∈a,n<65536):sixP (textP a)=some a:=by
 unfold textP;have hr:=run_ok0 a;generalize runP 0 a (0,0)=f at hr⊢;obtain⟨f,t⟩:=f;by_cases he:f=t
 ·rw[if_pos he];unfold sixP;rw[cut_none]
  have hne:(toldP a).isEmpty=false:=by
   rw[List.isEmpty_eq_false_iff];exact told_ne (by intro h;rw[h]at h8;cases h8)
  simp only[hne,told_row_s _ a hl,show rowS [] true=some []from rfl,List.append_nil,List.length_nil,Nat.add_zero,h8,Lib.hasPrefix]
  simp
 ·rcases hr with hr|⟨h1,h2,h3⟩
  ·exact absurd (by injection hr with a b;rw[a,b]) he
  ·simp only at h1 h2 h3;rw[if_neg (by exact he)];unfold sixP;rw[cut_told]
   have hp:Lib.hasPrefix (toldP (a.drop t)) [58]=false:=by
    rw[Bool.eq_false_iff];intro hh;unfold Lib.hasPrefix at hh;have:=told_head (a.drop t);cases hx:toldP (a.drop t)with
    | nil=>rw[hx]at hh;cases hh
    | cons c r=>rw[hx]at hh this;simp[List.isPrefixOf]at hh;exact this (by simp[hh])
   simp only[hp,told_row_s _ (a.take f) (fun n hn=>hl n (List.mem_of_mem_take hn)),told_row_s _ (a.drop t) (fun n hn=>hl n (List.mem_of_mem_drop hn))];simp only[Bool.not_true,Bool.false_and,Bool.or_self,Bool.false_eq_true,if_false,if_true,List.length_take,List.length_drop];rw[if_neg (by omega)];congr 1
   apply List.ext_getElem?
   intro k;by_cases hk:k<f
   ·rw[List.append_assoc,List.getElem?_append_left (by simp;omega),List.getElem?_take,if_pos hk]
   ·rw[List.append_assoc,List.getElem?_append_right (by simp;omega)];by_cases hkt:k<t
    ·rw[List.getElem?_append_left (by simp;omega),List.getElem?_replicate,if_pos (by simp;omega),h3 k (by omega) hkt]
    ·rw[List.getElem?_append_right (by simp;omega),List.getElem?_drop];congr 1
     simp;omega
theorem bytesP_ok {x:Bs} {l:List Nat} (h:bytesP x=some l):l.length=4/\∀n∈l,n<256:=by
 unfold bytesP at h;cases hm:(splitC 46 x).mapM byteP with
 | none=>rw[hm]at h;cases h
 | some m=>
   rw[hm]at h
   have:∀(xs:List Bs) (m:List Nat),xs.mapM byteP=some m->∀n∈m,n<256:=by
    intro xs
    induction xs with
    | nil=>intro m h n hn;simp at h;rw[h]at hn;cases hn
    | cons x r ih=>
      intro m h n hn;rw[List.mapM_cons]at h;cases hx:byteP x with
      | none=>rw[hx]at h;cases h
      | some v=>
        rw[hx]at h;cases hr:r.mapM byteP with
        | none=>rw[hr]at h;cases h
        | some ms=>
          rw[hr]at h;have h:some (v::ms)=some m:=h;injection h with h
          rw[<-h]at hn;rcases List.mem_cons.1 hn with rfl|hn
          ·unfold byteP at hx;split at hx
           ·rename_i u hu;have:=Lib.parseUintB_le hu;split at hx
            ·injection hx with hx;omega
            ·cases hx
           ·cases hx
          ·exact ih ms hr n hn
   simp only at h;split at h
   ·injection h with h;rw[<-h];exact⟨by assumption,this _ _ hm⟩
   ·cases h
theorem four_form {b:List Nat} (h:b.length=4):∃p q s t,b=[p,q,s,t]:=by
 cases b with
 | nil=>cases h
 | cons p b=>cases b with
   | nil=>cases h
   | cons q b=>cases b with
     | nil=>cases h
     | cons s b=>cases b with
       | nil=>cases h
       | cons t b=>cases b with
         | nil=>exact⟨p,q,s,t,rfl⟩
         | cons _ _=>simp at h
theorem rowP_ok (last:Bool):∀(ls:List Bs) (l:List Nat),rowP last ls=some l->∀n∈l,n<65536
 | [],l,h,n,hn=>by simp[rowP]at h;rw[h]at hn;cases hn
 | x::r,l,h,n,hn=>by
   rw[rowP]at h;split at h
   ·cases hb:bytesP x with
    | none=>rw[hb]at h;cases h
    | some b=>
      rw[hb]at h;obtain⟨h4,hlt⟩:=bytesP_ok hb;obtain⟨p,q,s,t,rfl⟩:=four_form h4;simp only[Option.map_some,List.getD_cons_zero,List.getD_cons_succ]at h;injection h with h
      rw[<-h]at hn;have:=hlt p (by simp);have:=hlt q (by simp);have:=hlt s (by simp);have:=hlt t (by simp);simp only[List.mem_cons,List.not_mem_nil,or_false]at hn;rcases hn with rfl|rfl<;>omega
   ·cases hp:pieceP x with
    | none=>rw[hp]at h;cases h
    | some v=>
      rw[hp]at h;simp only at h;cases hr:rowP last r with
      | none=>rw[hr]at h;cases h
      | some m=>
        rw[hr]at h;simp only[Option.map_some]at h;injection h with h
        rw[<-h]at hn;rcases List.mem_cons.1 hn with rfl|hn
        ·exact pieceP_lt hp
        ·exact rowP_ok last r m hr n hn
theorem rowS_ok {s:Bs} {last:Bool} {l:List Nat} (h:rowS s last=some l):∀n∈l,n<65536:=by
 unfold rowS at h;split at h
 ·injection h with h;rw[<-h];intro n hn;cases hn
 ·exact rowP_ok _ _ _ h
theorem six_ok {s:Bs} {a:List Nat} (h:sixP s=some a):a.length=8/\∀n∈a,n<65536:=by
 unfold sixP at h;simp only at h;split at h
 ·cases h
 ·split at h
  ·rename_i x y hx hy;have h1:=rowS_ok hx;have h2:=rowS_ok hy;split at h
   ·split at h
    ·cases h
    ·injection h with h
     rw[<-h];refine⟨by simp;omega,fun n hn=>?_⟩;simp only[List.mem_append,List.mem_replicate]at hn;rcases hn with(hn|hn)|hn
     ·exact h1 n hn
     ·omega
     ·exact h2 n hn
   ·split at h
    ·injection h with h
     rw[<-h];refine⟨by simpa using by assumption,fun n hn=>?_⟩;rcases List.mem_append.1 hn with hn|hn
     ·exact h1 n hn
     ·exact h2 n hn
    ·cases h
  ·cases h
theorem num_dec1:∀n:Fin 256,numP (Lib.decDigits n.val)=some n.val:=by decide +kernel
theorem num_dec {n:Nat} (h:n<256):numP (Lib.decDigits n)=some n:=num_dec1 ⟨n,h⟩
theorem dig_not:∀c:UInt8,isDigit c=true->c≠46/\c≠58/\c≠37/\low1 c=c/\oddB c=false/\banned.contains c=false/\(c<32||126<c)=false:=byte_all (by decide +kernel)
theorem dotted_chars (b:List Nat):∀c∈dottedP b,isDigit c=true\/c=46:=by
 intro c hc;unfold dottedP at hc;rcases joinP_mem hc with h|⟨x,hx,h⟩
 ·right;simpa using h
 ·obtain⟨n,_,rfl⟩:=List.mem_map.1 hx;exact Or.inl (dec_digit n c h)
theorem dotted_split {b:List Nat} (hb:b≠[]):splitC 46 (dottedP b)=b.map fun x=>Lib.decDigits x:=by
 unfold dottedP;exact splitC_join 46 _ (by simpa using hb) (by intro x hx c hc;obtain⟨n,_,rfl⟩:=List.mem_map.1 hx;exact(dig_not c (dec_digit n c hc)).1)
theorem labels_dotted {b:List Nat} (hb:b≠[]):labelsP (dottedP b)=b.map fun x=>Lib.decDigits x:=by
 unfold labelsP;rw[dotted_split hb,if_neg];rintro⟨_,h⟩;rw[List.getLast?_map]at h;cases hl:b.getLast? with
 | none=>rw[hl]at h;cases h
 | some x=>rw[hl]at h;exact dec_ne x (Option.some.inj h)
theorem fourB_dec (b:List Nat) (n:Nat) (h:b.length<=n) (hn:n=4) (hl:∀x∈b,x<256):fourB n (b.map fun x=>Lib.decDigits x)=some b:=by
 subst hn
 induction b with
 | nil=>rfl
 | cons x r ih=>
   have hx:x<256:=hl x (by simp);rw[List.map_cons,fourB,num_dec hx];have hm:(if(r.map fun x=>Lib.decDigits x)=[]then 5-4 else 1)=1:=by split<;>rfl
   simp only[hm];rw[if_neg (by omega),ih (fun y hy=>hl y (List.mem_cons_of_mem _ hy)) (by simp at h;omega)]
   have:(List.range 1).reverse.map (fun k=>x / 256^k%256)=[x]:=by
    show[x / 256^0%256]=[x];rw[Nat.pow_zero,Nat.div_one,Nat.mod_eq_of_lt hx]
   rw[this];rfl
theorem four_dotted {b:List Nat} (h4:b.length=4) (hl:∀x∈b,x<256):fourP (labelsP (dottedP b))=some (dottedP b):=by
 have hb:b≠[]:=by intro h;rw[h]at h4;cases h4
 unfold fourP;rw[labels_dotted hb,List.length_map,h4,if_neg (by omega),fourB_dec b 4 (by omega) rfl hl];rfl
def labB (many v:Nat):List Nat:=(List.range many).reverse.map fun k=>v / 256^k%256
theorem labB_lt {many v x:Nat} (h:x∈labB many v):x<256:=by
 unfold labB at h;simp only[List.mem_map,List.mem_reverse]at h;obtain⟨k,_,rfl⟩:=h;exact Nat.mod_lt _ (by omega)
theorem labB_len (many v:Nat):(labB many v).length=many:=by unfold labB;simp
theorem fourB_cons (n:Nat) (s:Bs) (r:List Bs):fourB n (s::r)=match numP s with
 | none=>none
 | some v=>if 0<v / 256^(if r=[]then 5-n else 1)then none else(fourB n r).map fun t=>labB (if r=[]then 5-n else 1) v++t:=rfl
theorem fourB_inv {n:Nat} {s:Bs} {r:List Bs} {b:List Nat} (h:fourB n (s::r)=some b):∃v t,numP s=some v/\fourB n r=some t/\b=labB (if r=[]then 5-n else 1) v++t:=by
 rw[fourB_cons]at h;cases hv:numP s with
 | none=>rw[hv]at h;cases h
 | some v=>
   rw[hv]at h;simp only at h;generalize (if r=[]then 5-n else 1)=m at h⊢;by_cases h0:0<v / 256^m
   ·rw[if_pos h0]at h;cases h
   ·rw[if_neg h0]at h;cases hr:fourB n r with
    | none=>rw[hr]at h;cases h
    | some t=>
      rw[hr]at h;exact⟨v,t,rfl,rfl,(Option.some.inj h).symm⟩
theorem fourB_len:∀(l:List Bs) (n:Nat) (b:List Nat),l≠[]->l.length<=n->n<=4->fourB n l=some b->b.length=l.length+(4-n)/\∀x∈b,x<256
 | [],n,b,h,_,_,_=>absurd rfl h
 | s::r,n,b,_,hl,hn,h=>by
   obtain⟨v,t,hv,hr,rfl⟩:=fourB_inv h;simp only[List.length_cons]at hl⊢;rw[List.length_append,labB_len];by_cases hr0:r=[]
   ·rw[hr0,fourB]at hr;injection hr with hr
    rw[hr0,if_pos rfl,<-hr];refine⟨by simp;omega,fun x hx=>?_⟩;rw[List.append_nil]at hx;exact labB_lt hx
   ·rw[if_neg hr0];obtain⟨h1,h2⟩:=fourB_len r n t hr0 (by omega) hn hr;refine⟨by omega,fun x hx=>?_⟩;rcases List.mem_append.1 hx with hx|hx
    ·exact labB_lt hx
    ·exact h2 x hx
theorem four_ok {l:List Bs} {t:Bs} (hl:l≠[]) (h:fourP l=some t):∃b:List Nat,b.length=4/\(∀x∈b,x<256)/\t=dottedP b:=by
 unfold fourP at h;split at h
 ·cases h
 ·cases hb:fourB l.length l with
  | none=>rw[hb]at h;cases h
  | some b=>
    rw[hb]at h;injection h with h
    obtain⟨h1,h2⟩:=fourB_len l l.length b hl (Nat.le_refl _) (by omega) hb;exact⟨b,by omega,h2,h.symm⟩
theorem labels_ne (s:Bs):labelsP s≠[]:=by
 have hne:splitC 46 s≠[]:=by
  cases s with
  | nil=>simp[splitC]
  | cons b r=>
    rw[splitC];split
    ·simp
    ·split<;>simp
 unfold labelsP;split
 ·rename_i h;intro h2;have:=congrArg List.length h2
  simp at this;omega
 ·exact hne
theorem triple_not {c:UInt8} (h:c≠37) (r:Bs):tripleP (c::r)=none:=by
 unfold tripleP;split
 ·rename_i heq;injection heq with h1 _
  exact absurd h1 h
 ·rfl
theorem decode_cons {c:UInt8} {r:Bs} {x:Bs} (h:tripleP (c::r)=none) (hx:decodeP r=x):decodeP (c::r)=c::x:=by
 rw[decodeP,h];simp[hx]
theorem decode_free:∀l:Bs,(∀c∈l,c≠37)->decodeP l=l
 | [],_=>by rw[decodeP]
 | c::r,h=>decode_cons (triple_not (h c (by simp)) r) (decode_free r fun x hx=>h x (by simp[hx]))
theorem encode_none (of:Bs) (l:Bs) (h:∀c∈l,(c<32||126<c||of.contains c)=false):encodeP of l=l:=by
 unfold encodeP
 induction l with
 | nil=>rfl
 | cons c r ih=>rw[List.flatMap_cons,h c (by simp),ih fun x hx=>h x (by simp[hx])];rfl
theorem low_none (l:Bs) (h:∀c∈l,low1 c=c):low l=l:=by
 unfold low
 induction l with
 | nil=>rfl
 | cons c r ih=>rw[List.map_cons,h c (by simp),ih fun x hx=>h x (by simp[hx])]
def DomOk (d:Bs):Prop:=d≠[]/\d.any oddB=false/\low d=d/\(numberedP d=false\/fourP (labelsP d)=some d)
theorem odd_not:∀c:UInt8,oddB c=false->c≠37/\c≠91/\banned.contains c=false/\(c<32||126<c)=false:=byte_all (by decide +kernel)
theorem any_false {p:UInt8->Bool} {l:Bs} (h:l.any p=false):∀c∈l,p c=false:=by
 intro c hc;rw[List.any_eq_false]at h;simpa using h c hc
theorem dom_again {d:Bs} (h:DomOk d) (special:Bool):hostPr d special=.ok d:=by
 obtain⟨h1,h2,h3,h4⟩:=h;have hc:=any_false h2
 have h91:d[0]? ≠some 91:=by
  intro h;have:=List.mem_of_getElem? h;exact(odd_not 91 (hc 91 this)).2.1 rfl
 unfold hostPr;rw[if_neg h91];cases special
 ·have hb:d.any banned.contains=false:=by
   rw[List.any_eq_false];intro c hc';have:=(odd_not c (hc c hc')).2.2.1;rw[this];simp
  rw[if_neg (by simp),hb,if_neg (by simp),encode_none];intro c hc';have:=(odd_not c (hc c hc')).2.2.2;rw[this];rfl
 ·rw[if_pos rfl];unfold domainP;rw[decode_free d fun c hc'=>(odd_not c (hc c hc')).1];simp only[h3];rw[if_neg (by rw[h2];simp[h1])];rcases h4 with h4|h4
  ·rw[h4];rfl
  ·cases hn:numberedP d
   ·rfl
   ·rw[h4];rfl
theorem dom_ok {s d:Bs} (h:domainP s=.ok d):DomOk d:=by
 unfold domainP at h;simp only at h;generalize hx:low (decodeP s)=x at h;split at h
 ·cases h
 ·rename_i hn;have hn1:x≠[]:=fun e=>hn (Or.inl e);have hn2:x.any oddB=false:=by rw[<-Bool.not_eq_true];exact fun e=>hn (Or.inr e)
  split at h
  ·cases hf:fourP (labelsP x)with
   | none=>rw[hf]at h;cases h
   | some t=>
     rw[hf]at h;simp only[ofO]at h;injection h with h
     rw[<-h];obtain⟨b,h4,hl,rfl⟩:=four_ok (labels_ne x) hf;have hb:b≠[]:=by intro h;rw[h]at h4;cases h4
     refine⟨?_,?_,?_,Or.inr (four_dotted h4 hl)⟩
     ·unfold dottedP;exact joinP_ne (by simpa using hb) (by intro x hx;obtain⟨n,_,rfl⟩:=List.mem_map.1 hx;exact dec_ne n)
     ·rw[List.any_eq_false];intro c hc;rcases dotted_chars b c hc with h|rfl
      ·rw[(dig_not c h).2.2.2.2.1];simp
      ·decide
     ·apply low_none
      intro c hc;rcases dotted_chars b c hc with h|rfl
      ·exact(dig_not c h).2.2.2.1
      ·decide
  ·rename_i hnn;injection h with h
   rw[<-h];exact⟨hn1,hn2,by rw[<-hx,low_low],Or.inl (by simpa using hnn)⟩
theorem wrap_six (a:List Nat) (h8:a.length=8) (hl:∀n∈a,n<65536) (special:Bool):hostPr ([91]++textP a++[93]) special=.ok ([91]++textP a++[93]):=by
 unfold hostPr;rw[if_pos (by simp)]
 have h1:¬(([91]++textP a++[93]:Bs).length<2\/([91]++textP a++[93]:Bs).getLast? ≠some 93):=by
  rw[List.getLast?_append];simp
 rw[if_neg h1];have h2:(([91]++textP a++[93]:Bs).drop 1).dropLast=textP a:=by simp
 rw[h2,six_back a h8 hl];rfl
theorem not_enc:∀c:UInt8,banned.contains c=false->∀x∈(if c<32||126<c||([]:Bs).contains c then[37,digitU (c.toNat / 16),digitU (c.toNat%16)]else[c]:Bs),banned.contains x=false/\(x<32||126<x)=false:=by
 have:∀c:UInt8,(banned.contains c||(if c<32||126<c||([]:Bs).contains c then[37,digitU (c.toNat / 16),digitU (c.toNat%16)]else[c]:Bs).all fun x=> !banned.contains x&& !(x<32||126<x))=true:=byte_all (by decide +kernel);intro c hc x hx;have h:=this c;rw[hc,Bool.false_or,List.all_eq_true]at h;simpa using h x hx
theorem enc_ok {s:Bs} (h:s.any banned.contains=false):∀x∈encodeP [] s,banned.contains x=false/\(x<32||126<x)=false:=by
 intro x hx;unfold encodeP at hx;obtain⟨c,hc,hx⟩:=List.mem_flatMap.1 hx;exact not_enc c (any_false h c hc) x hx
theorem other_again {s:Bs} (h:s.any banned.contains=false):hostPr (encodeP [] s) false=.ok (encodeP [] s):=by
 have hc:=enc_ok h
 have h91:(encodeP [] s)[0]? ≠some 91:=by
  intro h;have:=(hc 91 (List.mem_of_getElem? h)).1;exact absurd this (by decide)
 unfold hostPr;rw[if_neg h91,if_neg (by simp)]
 have hb:(encodeP [] s).any banned.contains=false:=by
  rw[List.any_eq_false];intro c hc';rw[(hc c hc').1];simp
 rw[hb,if_neg (by simp),encode_none];intro c hc';rw[(hc c hc').2];rfl
theorem host_again_true {s h:Bs} (e:hostPr s true=.ok h):hostPr h true=.ok h/\hostPr h false=.ok h/\h≠[]:=by
 unfold hostPr at e;split at e
 ·split at e
  ·cases e
  ·cases ha:sixP ((s.drop 1).dropLast)with
   | none=>rw[ha]at e;cases e
   | some a=>
     rw[ha]at e;simp only[Option.map_some,ofO]at e;injection e with e
     rw[<-e];obtain⟨h8,hl⟩:=six_ok ha;exact⟨wrap_six a h8 hl true,wrap_six a h8 hl false,by simp⟩
 ·rw[if_pos rfl]at e;have:=dom_ok e;exact⟨dom_again this true,dom_again this false,this.1⟩
theorem host_again_false {s h:Bs} (e:hostPr s false=.ok h):hostPr h false=.ok h:=by
 unfold hostPr at e;split at e
 ·split at e
  ·cases e
  ·cases ha:sixP ((s.drop 1).dropLast)with
   | none=>rw[ha]at e;cases e
   | some a=>
     rw[ha]at e;simp only[Option.map_some,ofO]at e;injection e with e
     rw[<-e];obtain⟨h8,hl⟩:=six_ok ha;exact wrap_six a h8 hl false
 ·rw[if_neg (by simp)]at e;split at e
  ·cases e
  ·rename_i hb;injection e with e
   rw[<-e];exact other_again (by simpa using hb)
theorem host_err_true (s:Bs) (n:Nat) (e:hostPr s true=.er n):n=70\/n=71\/n=72:=by
 unfold hostPr domainP ofO at e;simp only at e
 repeat' split at e
 all_goals first |(injection e with e;omega)|cases e|(rename_i h;cases h)
theorem host_err_false (s:Bs) (n:Nat) (e:hostPr s false=.er n):n=70\/n=72:=by
 unfold hostPr ofO at e
 repeat' split at e
 all_goals first |(injection e with e;omega)|cases e|(rename_i h;cases h)
end Lz
namespace Go.Proofs
open Go.Shelf
open Go.RowKit in
theorem Tryz.strings_Join_none (a:Option Addr) (c:Nat) (sep:ByteArray) (w:World):
 Calls Tryz.prog 224 #[.slice a 0 c,.string sep] w fun e w'=>e=.returned (.string ⟨#[]⟩)/\w'=w:=Any.strings_Join_none Tryz.lays156 Tryz.Builder_Extra_156 a c sep w
def Tryz.lays119_ren:Go.Shelf.Ren:=⟨fun|119=>241|n=>n,fun|21=>21|4=>4|n=>n,fun|n=>n⟩
theorem Tryz.lays119:Go.Proofs.Lays.n119 Tryz.prog Tryz.lays119_ren:=by repeat' first |kernel_rfl|(intro w;rfl)|(intro w;kernel_rfl)|decide|constructor
theorem Tryz.utf8_ValidRune (r:Int) (w:World):
 Calls Tryz.prog 241 #[.int .i32 r] w fun e w'=>e=.returned (.bool (Lib.validRune r))/\w'=w:=Any.utf8_ValidRune Tryz.lays119 r w
end Go.Proofs
