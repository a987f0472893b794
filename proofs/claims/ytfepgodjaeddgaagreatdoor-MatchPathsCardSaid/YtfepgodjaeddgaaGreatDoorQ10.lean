/-
  strings.Count at one byte.
-/
import Derived.Test.YtfepgodjaeddgaaGreatDoorQ08
import Derived.Deep.DeepCutAuto
import Derived.Stop.Asserts
import Derived.RowKitTokens
import Derived.StillTailTactics
import Derived.Shelf.Strings.SlTrimAscii
import Derived.Deep.RegionHeld3
import Derived.Deep.AppendLies
import Derived.Deep.DrawnRows
import Derived.Lib.MapLaws
import Derived.Lib.QuoteLoop
set_option maxHeartbeats 2000000
set_option maxRecDepth 100000
namespace Go.Proofs
open Go.Shelf
def Tryz.lays156_ren:Go.Shelf.Ren:=⟨fun|156=>170|165=>216|166=>57|169=>50|240=>89|241=>245|276=>133|277=>267|n=>n,fun|31=>22|9=>9|3=>3|4=>4|0=>0|20=>20|72=>67|76=>82|70=>65|37=>35|75=>50|127=>101|164=>133|5=>5|80=>71|n=>n,fun|n=>n⟩
theorem Tryz.lays156:Go.Proofs.Lays.n156 Tryz.prog Tryz.lays156_ren:=by repeat' first |kernel_rfl|(intro w;rfl)|(intro w;kernel_rfl)|decide|constructor
theorem Tryz.Builder_Extra_156:Builder.Extra Tryz.prog Tryz.lays156_ren:=by repeat' first |kernel_rfl|(intro w;rfl)|(intro w;kernel_rfl)|decide|constructor
open Go.RowKit in
theorem Tryz.strings_Join (bk o c:Nat) (xs:List ByteArray) (sep:ByteArray) (w:World) (hcells:∀(j:Nat) x,xs[j]? =some x->w.cell? ⟨bk,o+j,none⟩=some (.string x)) (hbk:bk<w.heap.size) (hN:xs.length<=140737488355328) (hcap:xs.length<=c) (hlen:(Lib.join (xs.map (·.data.toList)) sep.data.toList).length<=140737488355328):
 Calls Tryz.prog 170 #[.slice (some ⟨bk,o,none⟩) xs.length c,.string sep] w fun e w'=>e=.returned (.string ⟨(Lib.join (xs.map (·.data.toList)) sep.data.toList).toArray⟩)/\Below w.heap.size w w':=Any.strings_Join Tryz.lays156 Tryz.Builder_Extra_156 bk o c xs sep w hcells hbk hN hcap hlen
def Tryz.lays160_ren:Go.Shelf.Ren:=⟨fun|160=>243|232=>262|231=>154|227=>155|234=>263|233=>156|236=>264|235=>157|228=>200|271=>219|151=>141|197=>129|120=>246|152=>194|260=>185|137=>105|119=>226|224=>187|225=>186|217=>159|266=>202|n=>n,fun|9=>9|4=>4|3=>3|5=>5|117=>159|116=>158|0=>0|124=>162|21=>21|105=>131|46=>100|119=>212|139=>215|138=>214|n=>n,fun|3=>4|4=>5|n=>n⟩
theorem Tryz.lays160:Go.Proofs.Lays.n160 Tryz.prog Tryz.lays160_ren:=by repeat' first |kernel_rfl|(intro w;rfl)|(intro w;kernel_rfl)|decide|constructor
def Tryz.laysPu14_ren:Go.Shelf.Ren:=⟨fun|14=>303|16=>300|17=>266|19=>305|20=>306|21=>285|22=>286|23=>287|24=>288|25=>301|27=>106|26=>302|28=>160|29=>203|30=>232|31=>233|32=>234|33=>235|35=>258|34=>257|36=>259|37=>260|38=>261|39=>282|40=>283|n=>n,fun|9=>9|3=>3|22=>237|24=>50|25=>245|4=>4|34=>293|5=>5|36=>100|37=>35|0=>0|39=>296|21=>21|44=>309|47=>101|50=>312|48=>310|2=>2|52=>236|55=>240|59=>271|60=>138|20=>20|61=>272|65=>305|66=>306|67=>71|n=>n,fun|0=>9|1=>10|2=>6|3=>7|4=>8|n=>n⟩
theorem Tryz.laysPu14:Go.Proofs.LaysPu.n14 Tryz.prog Tryz.laysPu14_ren:=by repeat' first |kernel_rfl|(intro w;rfl)|(intro w;kernel_rfl)|decide|constructor
open Go.RowKit in
theorem Tryz.strconv_ParseUint_10_at8_ok (s:ByteArray) (hmax:s.size<=9223372036854775806) (u:Nat) (h:Lib.parseUintB 8 s.data.toList=.ok u) (w:World):
 Calls Tryz.prog 303 #[.string s,.int .i64 10,.int .i64 8] w fun e w'=>e=.returned (.tuple #[.int .u64 u,.nilIface])/\(w'=w\/w'=Lib.bytesWorld w 5 s):=Any.strconv_ParseUint_10_at8_ok Tryz.laysPu14 s hmax u h w
open Go.RowKit in
theorem Tryz.strconv_ParseUint_10_at8_syntax (s:ByteArray) (hlim:s.size<=281474976710656) (h:Lib.parseUintB 8 s.data.toList=Lib.parseUintB 8 []) (ev:Value) (w:World) (hv:w.cell? ⟨9,0,none⟩=some ev) (hev:ev=.nilIface\/∃te pe,ev=.iface te pe):
 Calls Tryz.prog 303 #[.string s,.int .i64 10,.int .i64 8] w fun e w'=>∃N,e=.returned (.tuple #[.int .u64 0,.iface 296 (.pointer (some ⟨N,0,none⟩))])/\w.heap.size<=N/\w'.heap[N]? =some (.cells #[.string ⟨#[80,97,114,115,101,85,105,110,116]⟩,.string s,ev] 309 (0,0))/\Below w.heap.size w w':=Any.strconv_ParseUint_10_at8_syntax Tryz.laysPu14 s hlim h ev w hv hev
open Go.RowKit in
theorem Tryz.strconv_ParseUint_10_at8_range (s:ByteArray) (hlim:s.size<=281474976710656) (h:Lib.parseUintB 8 s.data.toList=.range) (ev:Value) (w:World) (hv:w.cell? ⟨10,0,none⟩=some ev) (hev:ev=.nilIface\/∃te pe,ev=.iface te pe):
 Calls Tryz.prog 303 #[.string s,.int .i64 10,.int .i64 8] w fun e w'=>∃N,e=.returned (.tuple #[.int .u64 255,.iface 296 (.pointer (some ⟨N,0,none⟩))])/\w.heap.size<=N/\w'.heap[N]? =some (.cells #[.string ⟨#[80,97,114,115,101,85,105,110,116]⟩,.string s,ev] 309 (0,0))/\Below w.heap.size w w':=Any.strconv_ParseUint_10_at8_range Tryz.laysPu14 s hlim h ev w hv hev
def Tryz.lays144_ren:Go.Shelf.Ren:=⟨fun|144=>296|143=>87|219=>131|217=>159|225=>186|224=>187|267=>188|266=>202|314=>218|n=>n,fun|9=>9|4=>4|3=>3|5=>5|46=>100|146=>216|51=>138|n=>n,fun|1=>2|n=>n⟩
theorem Tryz.lays144:Go.Proofs.Lays.n144 Tryz.prog Tryz.lays144_ren:=by repeat' first |kernel_rfl|(intro w;rfl)|(intro w;kernel_rfl)|decide|constructor
open Go.RowKit Go.Lib in
theorem Tryz.strings_Contains (s sub:ByteArray) (m:Int) (w:World) (hs:s.size<4294967281) (hm:w.cell? ⟨2,0,none⟩=some (.int .i64 m)):
 Calls Tryz.prog 296 #[.string s,.string sub] w fun e w'=>e=.returned (.bool (Lib.contains s.data.toList sub.data.toList))/\w'=w:=Any.strings_Contains Tryz.lays144 s sub m w hs hm
end Go.Proofs
namespace Go.Proofs.YtfepgodjaeddgaaGreatDoor
open Go.RowKit
def u8s (l:List UInt8):List Value:=l.map fun c=>Value.int .u8 c.toNat
theorem Tryz.infoU8:(Tryz.prog.info? 5).map (fun i=>(i.zero,i.size,i.bytes))=some (some (.int .u8 0),1,1):=by kernel_rfl
theorem cell_one (w:World) (v:Value) (T:TypeId) (j:Nat) (u:Value) (h:[v][j]? =some u):(w.alloc (.cells #[v] T)).cell? ((⟨w.heap.size,0,none⟩:Addr).add j)=some u:=by
 rw[addr_add,World.cell?_alloc_mark];have hj:j<1:=by have:=(List.getElem?_eq_some_iff.1 h).1;simpa using this
 obtain rfl:j=0:=by omega
 simpa using h
theorem Below.grown1 {B:Nat} {a w w':World} {o:Obj} {v:Value} {base e size n:Nat} {xs:List Value} (h:Below B a w) (hown:w.ownsRow base e size v n xs) (hg:(w.alloc o).grownBy w' v.ownBlock) (hB:B<=w.heap.size) (hb:B<=base):Below B a w':=
 (h.alloc hB o).grown hg (by simp;omega) (fun k hk=>Nat.le_trans hb ((hown.alloc o).lt k hk).1)
theorem conv_nil (w:World):(convert 35 9 (.slice none 0 0)).run Tryz.prog w=.ok (.string ⟨#[]⟩) w:=by kernel_rfl
theorem conv_own {w:World} {base:Nat} {v:Value} {n:Nat} {l:List UInt8} (h:w.ownsRow base 5 1 v n (u8s l)):
  (convert 35 9 v).run Tryz.prog w=.ok (.string ⟨l.toArray⟩) w:=by
 have hl:l.length=n:=by have:=h.1;simpa [u8s]using this
 rcases h.2 with⟨rfl,h0⟩|⟨g,cap,cur,rfl,hbg,hg,hn,hcm,hcs,htk⟩
 ·obtain rfl:l=[]:=List.length_eq_zero_iff.1 (by omega);exact conv_nil w
 ·rw[<-hl];refine run_convert_bytes_back (P:=Tryz.prog) w 35 9 5 ⟨g,0,none⟩ cap l Tryz.underlying35 Tryz.underlying5 Tryz.underlying9 ?_;intro j hj;rw[addr_add]
  have h1:cur[j]? =some (.int .u8 (l[j].toNat:Int)):=by
   have h2:(u8s l)[j]? =some (.int .u8 (l[j].toNat:Int)):=by simp[u8s,hj]
   rw[<-htk,List.getElem?_take]at h2;split at h2
   ·simpa using h2
   ·cases h2
  simp[World.cell?,hg,h1]
def SlB (w:World) (v:Value) (l:List UInt8):Prop:=
 ∃a c,v=.slice a l.length c/\l.length<=9223372036854775807/\∀(j:Nat) (b:UInt8),l[j]? =some b->∃B off,a=some ⟨B,off,none⟩/\B<w.heap.size/\w.cell? ⟨B,off+j,none⟩=some (.int .u8 b.toNat)
theorem append_data' (a b:ByteArray):(a++b).data.toList=a.data.toList++b.data.toList:=by simp
end Go.Proofs.YtfepgodjaeddgaaGreatDoor
namespace Lz
open Go
theorem zeros_zero {l:List Nat} {k:Nat} (h:l[k]? =some 0):zerosP (l.drop k)=1+zerosP (l.drop (k+1)):=by
 have hk:=(List.getElem?_eq_some_iff.1 h).1;rw[List.drop_eq_getElem_cons hk];have:l[k]=0:=(List.getElem?_eq_some_iff.1 h).2;rw[this];unfold zerosP;rw[List.takeWhile_cons]
 simp;omega
theorem zeros_non {l:List Nat} {k x:Nat} (h:l[k]? =some x) (hx:x≠0):zerosP (l.drop k)=0:=by
 have hk:=(List.getElem?_eq_some_iff.1 h).1;rw[List.drop_eq_getElem_cons hk];have:l[k]=x:=(List.getElem?_eq_some_iff.1 h).2;rw[this];unfold zerosP;rw[List.takeWhile_cons]
 simp[hx]
theorem run_step {l:List Nat} {i:Nat} (f:Nat×Nat) (hi:i<l.length):runP i (l.drop i) f=runP (i+1) (l.drop (i+1)) (if max (f.2-f.1) 1<zerosP (l.drop i)then(i,i+zerosP (l.drop i))else f):=by
 rw[List.drop_eq_getElem_cons hi];rfl
end Lz
namespace Go.Proofs.YtfepgodjaeddgaaGreatDoor
open Go.RowKit
def sixV (l:List Nat):Value:=.agg (l.map fun n:Nat=>Value.int .u16 (n:Int)).toArray
def RRun (l:List Nat) (w:World) (e:Ending) (w':World):Prop:=e=.returned (.tuple #[.int .i64 ((Lz.runP 0 l (0,0)).1:Nat),.int .i64 ((Lz.runP 0 l (0,0)).2:Nat)])/\Below w.heap.size w w'
theorem run_any (l:List Nat) (h8:l.length=8) (w:World):Calls Tryz.prog 278 #[sixV l] w (RRun l w):=by
 unfold sixV;obtain⟨w1,hw1⟩:∃w1,w1=w.alloc (.cells (l.map fun n:Nat=>Value.int .u16 (n:Int)).toArray 265):=⟨_,rfl⟩
 have hc:∀j x,l[j]? =some x->w1.cell? ⟨w.heap.size,j,none⟩=some (.int .u16 (x:Nat)):=by
  intro j x hj;rw[hw1,World.cell?_alloc_mark]
  simp[hj]
 have hb1:Below w.heap.size w w1:=by rw[hw1];exact(Below.refl _ w).alloc (Nat.le_refl _) _
 have Hc:=Ih hc;have H8:=Ih h8;clear hc h8;go_enter Tryz.func278,Tryz.ntmps278
 go_wp2
 rw[<-hw1];clear hw1
 go_loop [2,3,6] (fun a b c=>∃i f t:Nat,i<=8/\f<=t/\t<=8/\a=.int .i64 f/\b=.int .i64 t/\c=.int .i64 i/\Hid (Lz.runP i (l.drop i) (f,t)=Lz.runP 0 l (0,0))) (fun _ _ c=>8-(intOf c).toNat)
 case atStart=>exact⟨0,0,0,by omega,by omega,by omega,rfl,rfl,rfl,Ih rfl⟩
 case round=>
  obtain⟨i,f,t,hi,hft,ht,rfl,rfl,rfl,hR⟩:=hrel;by_cases hlt:i<8
  ·have hz8:Lz.zerosP (l.drop 8)=0:=by rw[List.drop_eq_nil_of_le (by rw[H8.out];exact Nat.le_refl _)];rfl
   have Hz8:=Ih hz8;clear hz8
   go_wp2
   go_loop [5] (fun c=>∃k:Nat,i<=k/\k<=8/\c=.int .i64 k/\Hid (Lz.zerosP (l.drop i)=(k-i)+Lz.zerosP (l.drop k))) (fun c=>8-(intOf c).toNat)
   case atStart=>exact⟨i,Nat.le_refl _,by omega,rfl,by show _=_;omega⟩
   case round=>
    obtain⟨k,hik,hk,rfl,hZ⟩:=hrel;by_cases hk8:k<8
    ·obtain⟨x,hx⟩:∃x,l[k]? =some x:=⟨_,List.getElem?_eq_getElem (by rw[H8.out];exact hk8)⟩;have hcx:=Hc.out k x hx;by_cases hx0:x=0
     ·have hxb:((x:Int)==0)=true:=by rw[hx0];rfl
      have hZ2:Hid (Lz.zerosP (l.drop i)=(k+1-i)+Lz.zerosP (l.drop (k+1))):=by
       show _=_;rw[hx0]at hx;rw[hZ.out,Lz.zeros_zero hx];omega
      clear hx hx0
      go_wp2
      go_round
      case rel=>exact⟨k+1,by omega,by omega,by go_num,hZ2⟩
      case measure=>simp[intOf];omega
     ·have hxb:((x:Int)==0)=false:=beq_eq_false_iff_ne.2 (by omega);have hZ2:Hid (Lz.zerosP (l.drop i)=k-i):=by show _=_;rw[hZ.out,Lz.zeros_non hx hx0];omega
      clear hx hx0;have hst:=Lz.run_step (f,t) (show i<l.length by rw[H8.out];exact hlt);rw[hZ2.out,hR.out]at hst;have Hst:=Ih hst;clear hst;obtain⟨d,hd⟩:∃d:Nat,d=k-i:=⟨_,rfl⟩;obtain⟨g,hg⟩:∃g:Nat,g=t-f:=⟨_,rfl⟩;have hd1:(k:Int)-i=d:=by omega
      have hg1:(t:Int)-f=g:=by omega
      have hki:i+(k-i)=k:=by omega
      by_cases hm:max (t-f) 1<k-i
      ·have hm':max (g:Int) 1<d:=by omega
       have HS:Hid (Lz.runP (i+1) (l.drop (i+1)) (i,k)=Lz.runP 0 l (0,0)):=by
        show _=_;have:=Hst.out;rw[if_pos hm,hki]at this;exact this.symm
       clear hd hg hm hki
       go_wp2
       go_round
       case rel=>exact⟨i+1,i,k,by omega,hik,hk,rfl,rfl,by go_num,HS⟩
       case measure=>simp[intOf];omega
      ·have hm':¬max (g:Int) 1<d:=by omega
       have HS:Hid (Lz.runP (i+1) (l.drop (i+1)) (f,t)=Lz.runP 0 l (0,0)):=by
        show _=_;have:=Hst.out;rw[if_neg hm]at this;exact this.symm
       clear hd hg hm hki
       go_wp2
       go_round
       case rel=>exact⟨i+1,f,t,by omega,hft,ht,rfl,rfl,by go_num,HS⟩
       case measure=>simp[intOf];omega
    ·have hZ2:Hid (Lz.zerosP (l.drop i)=k-i):=by
      show _=_;have:k=8:=by omega
      have hz:=hZ.out;rw[this,Hz8.out]at hz;omega
     have hst:=Lz.run_step (f,t) (show i<l.length by rw[H8.out];exact hlt);rw[hZ2.out,hR.out]at hst;have Hst:=Ih hst;clear hst;obtain⟨d,hd⟩:∃d:Nat,d=k-i:=⟨_,rfl⟩;obtain⟨g,hg⟩:∃g:Nat,g=t-f:=⟨_,rfl⟩;have hd1:(k:Int)-i=d:=by omega
     have hg1:(t:Int)-f=g:=by omega
     have hki:i+(k-i)=k:=by omega
     by_cases hm:max (t-f) 1<k-i
     ·have hm':max (g:Int) 1<d:=by omega
      have HS:Hid (Lz.runP (i+1) (l.drop (i+1)) (i,k)=Lz.runP 0 l (0,0)):=by
       show _=_;have:=Hst.out;rw[if_pos hm,hki]at this;exact this.symm
      clear hd hg hm hki
      go_wp2
      go_round
      case rel=>exact⟨i+1,i,k,by omega,hik,hk,rfl,rfl,by go_num,HS⟩
      case measure=>simp[intOf];omega
     ·have hm':¬max (g:Int) 1<d:=by omega
      have HS:Hid (Lz.runP (i+1) (l.drop (i+1)) (f,t)=Lz.runP 0 l (0,0)):=by
       show _=_;have:=Hst.out;rw[if_neg hm]at this;exact this.symm
      clear hd hg hm hki
      go_wp2
      go_round
      case rel=>exact⟨i+1,f,t,by omega,hft,ht,rfl,rfl,by go_num,HS⟩
      case measure=>simp[intOf];omega
  ·have hi8:i=8:=by omega
   have hR2:Hid (Lz.runP 0 l (0,0)=(f,t)):=by
    show _=_;rw[<-hR.out,hi8,List.drop_eq_nil_of_le (by rw[H8.out];exact Nat.le_refl _)];rfl
   clear hi8
   go_wp2
   go_ret2
   exact⟨by rw[hR2.out];rfl,hb1⟩
end Go.Proofs.YtfepgodjaeddgaaGreatDoor
namespace Go.Proofs
open Go.Shelf
open Go.RowKit in
theorem Tryz.strings_Join_none (a:Option Addr) (c:Nat) (sep:ByteArray) (w:World):
 Calls Tryz.prog 170 #[.slice a 0 c,.string sep] w fun e w'=>e=.returned (.string ⟨#[]⟩)/\w'=w:=Any.strings_Join_none Tryz.lays156 Tryz.Builder_Extra_156 a c sep w
def Tryz.lays119_ren:Go.Shelf.Ren:=⟨fun|119=>226|n=>n,fun|21=>21|4=>4|n=>n,fun|n=>n⟩
theorem Tryz.lays119:Go.Proofs.Lays.n119 Tryz.prog Tryz.lays119_ren:=by repeat' first |kernel_rfl|(intro w;rfl)|(intro w;kernel_rfl)|decide|constructor
theorem Tryz.utf8_ValidRune (r:Int) (w:World):
 Calls Tryz.prog 226 #[.int .i32 r] w fun e w'=>e=.returned (.bool (Lib.validRune r))/\w'=w:=Any.utf8_ValidRune Tryz.lays119 r w
end Go.Proofs
namespace Lz
open Go
structure UrlL where
 scheme:Bs:=[]
 user:Bs:=[]
 pass:Bs:=[]
 hasHost:Bool:=false
 host:Bs:=[]
 port:Int:= -1
 opq:Bool:=false
 path:List Bs:=[]
 hasQuery:Bool:=false
 hasFragment:Bool:=false
 query:Bs:=[]
 fragment:Bs:=[]
 deriving DecidableEq,Repr
inductive UR where
 | ok (u:UrlL)
 | er (n:Nat)
 deriving DecidableEq,Repr
def UR.bind:UR->(UrlL->UR)->UR
 | .ok u,f=>f u
 | .er n,_=>.er n
def httpS:Bs:=[104,116,116,112]
def httpsS:Bs:=[104,116,116,112,115]
def wsS:Bs:=[119,115]
def wssS:Bs:=[119,115,115]
def ftpS:Bs:=[102,116,112]
def fileS:Bs:=[102,105,108,101]
def blobS:Bs:=[98,108,111,98]
def defP (s:Bs):Int:=if s=httpS\/s=wsS then 80 else if s=httpsS\/s=wssS then 443 else if s=ftpS then 21 else -1
def specP (s:Bs):Bool:=s==fileS|| !(defP s== -1)
def slashQ (sp:Bool) (c:UInt8):Bool:=c==47||(sp&&c==92)
def setU:Nat->Bs
 | 1=>[32,34,60,62,96]
 | 2=>[32,34,35,60,62]
 | 3=>[32,34,35,60,62,39]
 | 4=>[32,34,35,60,62,63,94,96,123,125]
 | 5=>[32,34,35,60,62,63,94,96,123,125,47,58,59,61,64,91,92,93,124]
 | _=>[]
def driveP:Bs->Bool
 | [a,b]=>isAlpha a&&(b==58||b==124)
 | _=>false
def drivenP:Bs->Bool
 | [a,b]=>isAlpha a&&(b==58||b==124)
 | a::b::c::_=>isAlpha a&&(b==58||b==124)&&(c==47||c==92)
 | _=>false
def rootedP:List Bs->Bool
 | p::_=>driveP p&&p[1]? ==some 58
 | []=>false
def shortP (scheme:Bs) (l:List Bs):List Bs:=if scheme=fileS/\l.length=1/\rootedP l=true then l else l.dropLast
def unE:Bs->Bs
 | 37::50::101::r=>46::unE r
 | c::r=>c::unE r
 | []=>[]
def dotsP (p:Bs):Nat:=if unE (low p)=[46]then 1 else if unE (low p)=[46,46]then 2 else 0
def cutS (sp:Bool) (s:Bs):Bs×Bs×Bool:=(s.takeWhile fun c=> !slashQ sp c,(s.dropWhile fun c=> !slashQ sp c).drop 1,s.any (slashQ sp))
def splitS (sp:Bool):Bs->List Bs
 | []=>[[]]
 | c::r=>if slashQ sp c then[]::splitS sp r else match splitS sp r with
   | h::t=>(c::h)::t
   | []=>[[c]]
def onL (scheme:Bs):List Bs->List Bs->List Bs
 | path,[]=>path
 | path,p::r=>
   let q:=encodeP (setU 4) p
   if dotsP q=2 then onL scheme (if r=[]then shortP scheme path++[[]]else shortP scheme path) r
   else if dotsP q=1 then onL scheme (if r=[]then path++[[]]else path) r
   else onL scheme (path++[if scheme=fileS/\path=[]/\driveP q=true then q.take 1++[58]else q]) r
def onP (u:UrlL) (t:Bs):UrlL:={u with path:=onL u.scheme u.path (splitS (specP u.scheme) t)}
def colonP:Bool->Bs->Option Nat
 | _,[]=>none
 | i,c::r=>if c==91 then(colonP true r).map (·+1)else if c==93 then(colonP false r).map (·+1)else if c==58&& !i then some 0 else(colonP i r).map (·+1)
def portN:Nat->Bs->Option Nat
 | n,[]=>some n
 | n,c::r=>if isDigit c then portN (min (10*n+(c.toNat-48)) 1048576) r else none
def portU (u:UrlL) (s:Bs):UR:=match portN 0 s with
 | none=>.er 81
 | some n=>if 65535<n then .er 81 else .ok (if s≠[]/\(n:Int)≠defP u.scheme then{u with port:=n} else u)
def hostU (u:UrlL) (s:Bs):UR:=match hostPr s (specP u.scheme)with
 | .er n=>.er n
 | .ok h=>.ok {u with host:=h,hasHost:=true}
def lastAt:Bs->Option (Bs×Bs)
 | []=>none
 | c::r=>match lastAt r with
   | some (x,y)=>some (c::x,y)
   | none=>if c==64 then some ([],r)else none
def whoU (u:UrlL) (a:Bs):UrlL:={u with user:=encodeP (setU 5) (Lib.cut a [58]).1,pass:=encodeP (setU 5) (Lib.cut a [58]).2.1}
def placeU (u:UrlL) (a:Bs):UR:=match colonP false a with
 | some i=>if a.take i=[]then .er 70 else(hostU u (a.take i)).bind fun u=>portU u (a.drop (i+1))
 | none=>if a=[]/\specP u.scheme=true then .er 70 else(hostU u a).bind fun u=>portU u []
def authU (u:UrlL) (a:Bs):UR:=match lastAt a with
 | some (x,y)=>if y=[]then .er 70 else placeU (whoU u x) y
 | none=>placeU u a
def hostedU (u:UrlL) (r:Bs):UR:=
 let c:=cutS (specP u.scheme) r
 (authU u c.1).bind fun u=>.ok (if c.2.2||specP u.scheme then onP u c.2.1 else u)
def restU (u b:UrlL):UrlL:={u with user:=b.user,pass:=b.pass,hasHost:=b.hasHost,host:=b.host,port:=b.port}
def pathU (u b:UrlL) (r:Bs):UrlL:=
 if r≠[]then onP {u with path:=shortP u.scheme b.path} r
 else if u.hasQuery then{u with path:=b.path} else{u with path:=b.path,query:=b.query,hasQuery:=b.hasQuery}
def leadS (sp:Bool) (r:Bs):Nat:=(r.takeWhile (slashQ sp)).length
def relU (u b:UrlL) (r:Bs):UR:=
 let n:=leadS (specP u.scheme) r
 if 1<n then hostedU u (if specP u.scheme then r.drop n else r.drop 2)
 else if n=1 then .ok (onP (restU u b) (r.drop 1))
 else .ok (pathU (restU u b) b r)
def localS:Bs:=[108,111,99,97,108,104,111,115,116]
def filesU (u:UrlL) (b:Option UrlL) (r:Bs):UR:=
 let u:UrlL:={u with hasHost:=true}
 let n:=leadS true r
 if 1<n then
  let c:=cutS true (r.drop 2)
  if driveP c.1 then .ok (onP u (r.drop 2))
  else(if c.1=[]then UR.ok u else hostU u c.1).bind fun u=>.ok (onP (if u.host=localS then{u with host:=[]} else u) c.2.1)
 else if n=1 then
  .ok (onP (match b with
   | some x=>if x.scheme=fileS then(if drivenP (r.drop 1)=false/\rootedP x.path=true then{u with host:=x.host,path:=x.path.take 1} else{u with host:=x.host})else u
   | none=>u) (r.drop 1))
 else match b with
  | some x=>if x.scheme=fileS then(if drivenP r then .ok (onP {u with host:=x.host} r)else .ok (pathU {u with host:=x.host} x r))else .ok (onP u r)
  | none=>.ok (onP u r)
def schemeC (c:UInt8):Bool:=isAlpha c||isDigit c||c==43||c==45||c==46
def schemedP (s:Bs):Bs×Bs×Bool:=
 let c:=Lib.cut s [58]
 if c.2.2&& !c.1.isEmpty&&(match c.1 with|a::_=>isAlpha a|[]=>false)&&c.1.all schemeC then(low c.1,c.2.1,true)else([],s,false)
def cleanP (s:Bs):Bs:=(((s.dropWhile (·<=32)).reverse.dropWhile (·<=32)).reverse).filter fun c=> !(c==9||c==10||c==13)
def mainU (u:UrlL) (s:Bs) (b:Option UrlL):UR:=
 let c:=schemedP s
 if c.2.2 then
  let u:UrlL:={u with scheme:=c.1}
  if c.1=fileS then filesU u b c.2.1
  else if specP c.1 then(match b with
   | some x=>if x.scheme=c.1/\Lib.hasPrefix c.2.1 [47,47]=false then relU u x c.2.1 else hostedU u (c.2.1.drop (leadS true c.2.1))
   | none=>hostedU u (c.2.1.drop (leadS true c.2.1)))
  else if Lib.hasPrefix c.2.1 [47,47]then hostedU u (c.2.1.drop 2)
  else if Lib.hasPrefix c.2.1 [47]then .ok (onP u (c.2.1.drop 1))
  else .ok {u with opq:=true,path:=[encodeP [] c.2.1]}
 else match b with
  | none=>.er 82
  | some x=>
    if x.opq&&(!s.isEmpty||u.hasQuery|| !u.hasFragment)then .er 82
    else
     let u:UrlL:={u with scheme:=x.scheme}
     if x.opq then .ok (pathU {u with opq:=true} x [])
     else if x.scheme=fileS then filesU u b s
     else relU u x s
def readU (s:Bs) (b:Option UrlL):UR:=
 let f:=Lib.cut (cleanP s) [35]
 let q:=Lib.cut f.1 [63]
 (mainU {query:=q.2.1,hasQuery:=q.2.2,fragment:=f.2.1,hasFragment:=f.2.2} q.1 b).bind fun u=>
  .ok {u with query:=encodeP (setU (if specP u.scheme then 3 else 2)) u.query,fragment:=encodeP (setU 1) u.fragment}
def atU (u:UrlL):Bs:=if u.port= -1 then u.host else u.host++[58]++Lib.itoa u.port
def textU (u:UrlL):Bs:=
 u.scheme++[58]++
 (if u.hasHost then[47,47]++u.user++(if u.pass=[]then[]else[58]++u.pass)++(if u.user=[]/\u.pass=[]then[]else[64])++atU u
  else if u.opq=false/\1<u.path.length/\u.path.head? =some []then[47,46]else[])++
 (if u.opq then u.path.headD []else u.path.flatMap fun p=>47::p)++
 (if u.hasQuery then 63::u.query else[])++(if u.hasFragment then 35::u.fragment else[])
def parseU (s:Bs) (b:Option UrlL):UR:=
 if 4000<s.length then .er 3
 else match b with
  | some x=>if readU (textU x) none=.ok x then readU s b else .er 2
  | none=>readU s none
def originU (u:UrlL):Bs:=
 if defP u.scheme≠ -1 then u.scheme++[58,47,47]++atU u
 else if u.scheme=blobS/\u.opq=true/\u.path≠[]then(match parseU (u.path.headD []) none with
  | .ok x=>if x.scheme=httpS\/x.scheme=httpsS then x.scheme++[58,47,47]++atU x else[110,117,108,108]
  | .er _=>[110,117,108,108])
 else[110,117,108,108]
def lowQ (c:UInt8):Bool:=decide (c<=32)
def keepQ (c:UInt8):Bool:= !(c==9||c==10||c==13)
theorem low_keep {c:UInt8} (h:lowQ c=false):keepQ c=true:=by
 unfold lowQ at h;unfold keepQ;have h32:¬c<=32:=of_decide_eq_false h;cases h9:(c==9)
 ·cases h10:(c==10)
  ·cases h13:(c==13)
   ·rfl
   ·exact absurd (by rw[eq_of_beq h13];decide) h32
  ·exact absurd (by rw[eq_of_beq h10];decide) h32
 ·exact absurd (by rw[eq_of_beq h9];decide) h32
theorem filter_drop:∀l:Bs,(l.dropWhile lowQ).filter keepQ=(l.filter keepQ).dropWhile lowQ
 | []=>rfl
 | c::r=>by
   rw[List.dropWhile_cons];cases h:lowQ c
   ·simp only[Bool.false_eq_true,if_false];rw[List.filter_cons,if_pos (low_keep h),List.dropWhile_cons,h]
    simp
   ·simp only[if_true];rw[filter_drop r,List.filter_cons];split
    ·rw[List.dropWhile_cons,if_pos h]
    ·rfl
theorem clean_eq (s:Bs):cleanP s=(((s.filter keepQ).dropWhile lowQ).reverse.dropWhile lowQ).reverse:=by
 show(((s.dropWhile lowQ).reverse.dropWhile lowQ).reverse).filter keepQ=_;rw[List.filter_reverse,filter_drop,List.filter_reverse,filter_drop]
def okE (of:Bs) (c:UInt8):Bool:= !(c<32||126<c||of.contains c)
theorem encode_id {of l:Bs} (h:l.all (okE of)=true):encodeP of l=l:=by
 induction l with
 | nil=>rfl
 | cons c r ih=>
   rw[List.all_cons,Bool.and_eq_true]at h;unfold encodeP at ih⊢;rw[List.flatMap_cons,ih h.2,if_neg]
   ·rfl
   ·have:=h.1;unfold okE at this;intro hh;rw[hh]at this;cases this
theorem triple_ok:∀k:Fin 6,∀d:Fin 16,okE (setU k.val) (digitU d.val)=true:=by decide +kernel
theorem pct_ok:∀k:Fin 6,okE (setU k.val) 37=true:=by decide +kernel
theorem encode_ok (k:Nat) (hk:k<6):∀s:Bs,(encodeP (setU k) s).all (okE (setU k))=true
 | []=>rfl
 | c::r=>by
   have ih:=encode_ok k hk r;unfold encodeP at ih⊢;rw[List.flatMap_cons,List.all_append,ih,Bool.and_true];split
   ·have h1:=triple_ok ⟨k,hk⟩ ⟨c.toNat / 16,by have:=c.toNat_lt;omega⟩;have h2:=triple_ok ⟨k,hk⟩ ⟨c.toNat%16,Nat.mod_lt _ (by omega)⟩;rw[List.all_cons,List.all_cons,List.all_cons,pct_ok ⟨k,hk⟩,h1,h2];rfl
   ·rename_i h;rw[List.all_cons];unfold okE;simp only[List.all_nil,Bool.and_true];cases hh:(decide (c<32)||decide (126<c)||(setU k).contains c)
    ·rfl
    ·exact absurd hh h
theorem index_one_none {k:UInt8}:∀{s:Bs},k∉s->Lib.index s [k]= -1
 | [],_=>rfl
 | c::r,h=>by
   have hc:([k]:Bs).isPrefixOf (c::r)=false:=by
    simp only[List.isPrefixOf,Bool.and_true];rw[beq_eq_false_iff_ne];intro e;exact h (by rw[e];simp)
   rw[Lib.index,hc,if_neg (by decide),index_one_none (fun hh=>h (List.mem_cons_of_mem _ hh))];rfl
theorem index_one_at {k:UInt8}:∀{a:Bs} (b:Bs),k∉a->Lib.index (a++k::b) [k]=a.length
 | [],b,_=>by
   show Lib.index (k::b) [k]=_;have hc:([k]:Bs).isPrefixOf (k::b)=true:=by simp[List.isPrefixOf]
   rw[Lib.index,hc,if_pos rfl];rfl
 | c::r,b,h=>by
   have hc:([k]:Bs).isPrefixOf (c::(r++k::b))=false:=by
    simp only[List.isPrefixOf,Bool.and_true];rw[beq_eq_false_iff_ne];intro e;exact h (by rw[e];simp)
   have ih:=index_one_at (a:=r) b (fun hh=>h (List.mem_cons_of_mem _ hh));rw[List.cons_append,Lib.index,hc,if_neg (by decide),ih,if_neg]
   ·simp
   ·intro hh;have h0:=eq_of_beq hh;omega
theorem cut_one_no {k:UInt8} {s:Bs} (h:k∉s):Lib.cut s [k]=(s,[],false):=by
 unfold Lib.cut;rw[index_one_none h];rfl
theorem cut_one_at {k:UInt8} {a:Bs} (b:Bs) (h:k∉a):Lib.cut (a++k::b) [k]=(a,b,true):=by
 unfold Lib.cut;rw[index_one_at b h,if_pos (by omega)]
 simp
theorem lastAt_no:∀{s:Bs},(64:UInt8)∉s->lastAt s=none
 | [],_=>rfl
 | c::r,h=>by
   have hc:(c==64)=false:=by rw[beq_eq_false_iff_ne];intro e;exact h (by rw[e];simp)
   rw[lastAt,lastAt_no (fun hh=>h (List.mem_cons_of_mem _ hh)),hc];rfl
theorem lastAt_at:∀(a:Bs) {b:Bs},(64:UInt8)∉b->lastAt (a++64::b)=some (a,b)
 | [],b,h=>by
   show lastAt (64::b)=_;rw[lastAt,lastAt_no h];rfl
 | c::r,b,h=>by
   rw[List.cons_append,lastAt,lastAt_at r h]
def plainQ (c:UInt8):Bool:= !lowQ c&& !(c==35)&& !(c==63)
def finU (u:UrlL):UR:=.ok {u with query:=encodeP (setU (if specP u.scheme then 3 else 2)) u.query,fragment:=encodeP (setU 1) u.fragment}
theorem itoa_nat (n:Nat):Lib.itoa (n:Int)=Lib.decDigits n:=by
 unfold Lib.itoa;rw[if_neg (by omega)];rfl
def pieceN (sp:Bool) (p:Bs):Prop:=p.all (okE (setU 4))=true/\dotsP p=0/\∀c∈p,slashQ sp c=false
structure HostN (sp:Bool) (h:Bs):Prop where
 again:hostPr h sp=.ok h
 chars:∀c∈h,plainQ c=true/\c≠64/\slashQ true c=false/\c<127
 colon:(∀c∈h,c≠58/\c≠91/\c≠93)\/∃x,h=91::(x++[93])/\(93:UInt8)∉x
structure MU (u:UrlL):Prop where
 s1:u.scheme≠[]
 s2:∀c,u.scheme.head? =some c->isAlpha c=true
 s3:u.scheme.all schemeC=true
 s4:low u.scheme=u.scheme
 user:u.user.all (okE (setU 5))=true
 pass:u.pass.all (okE (setU 5))=true
 special:specP u.scheme=true->u.hasHost=true/\u.opq=false/\u.path≠[]
 bare:u.hasHost=false->u.user=[]/\u.pass=[]/\u.host=[]/\u.port= -1
 opaqueN:u.opq=true->u.hasHost=false/\∃p:Bs,u.path=[p]/\p.all (okE [])=true/\(35:UInt8)∉p/\(63:UInt8)∉p/\p.head? ≠some 47/\(u.hasQuery=false->u.hasFragment=false->p.getLast? ≠some 32)
 path:u.opq=false->(∀p∈u.path,pieceN (specP u.scheme) p)/\(u.hasHost=false->u.path≠[])
 drive:u.scheme=fileS->∀p,u.path.head? =some p->driveP p=true->p.take 1++[58]=p
 host:u.hasHost=true->HostN (specP u.scheme) u.host\/(u.scheme=fileS/\u.host=[])
 empty:u.host=[]->u.user=[]/\u.pass=[]/\u.port= -1
 needed:specP u.scheme=true->u.scheme≠fileS->u.host≠[]
 file:u.scheme=fileS->u.user=[]/\u.pass=[]/\u.port= -1/\u.host≠localS/\driveP u.host=false
 port:u.port= -1\/∃n:Nat,u.port=n/\n<=65535/\(n:Int)≠defP u.scheme
structure NU (u:UrlL):Prop extends MU u where
 query:u.query.all (okE (setU (if specP u.scheme then 3 else 2)))=true
 noQuery:u.hasQuery=false->u.query=[]
 fragment:u.fragment.all (okE (setU 1))=true
 noFragment:u.hasFragment=false->u.fragment=[]
theorem url_ext {a b:UrlL} (h1:a.scheme=b.scheme) (h2:a.user=b.user) (h3:a.pass=b.pass) (h4:a.hasHost=b.hasHost) (h5:a.host=b.host) (h6:a.port=b.port) (h7:a.opq=b.opq) (h8:a.path=b.path) (h9:a.hasQuery=b.hasQuery) (h10:a.hasFragment=b.hasFragment) (h11:a.query=b.query) (h12:a.fragment=b.fragment):a=b:=by
 cases a;cases b;simp_all
theorem slash_sub {sp:Bool} {c:UInt8} (h:slashQ true c=false):slashQ sp c=false:=by
 cases sp
 ·unfold slashQ at h⊢;simp only[Bool.true_and,Bool.or_eq_false_iff]at h;rw[h.1];rfl
 ·exact h
def pathT (l:List Bs):Bs:=l.flatMap fun p=>47::p
theorem beq_swap (x:UInt8):((47:UInt8)==x)=(some x==some (47:UInt8)):=by
 rw[Bool.eq_iff_iff];simp only[beq_iff_eq,Option.some.injEq];exact eq_comm
theorem hasPrefix_one (s:Bs):Lib.hasPrefix s [47]=(s[0]? ==some 47):=by
 cases s with
 | nil=>rfl
 | cons a r=>
   show((47:UInt8)==a&&true)=(some a==some 47);rw[beq_swap,Bool.and_true]
theorem unE_no {b:UInt8} {l:Bs} (h:([37,50,101]:Bs).isPrefixOf (b::l)=false):unE (b::l)=b::unE l:=by
 conv=>lhs;unfold unE
 split
 ·rename_i r he;rw[he]at h
  simp[List.isPrefixOf]at h
 ·rename_i c r _ he;injection he with h1 h2
  rw[h1,h2]
 ·rename_i he;cases he
theorem unE_yes (r:Bs):unE (37::50::101::r)=46::unE r:=by
 conv=>lhs;unfold unE
 rfl
theorem pre_form {s:Bs} (h:([37,50,101]:Bs).isPrefixOf s=true):∃r,s=37::50::101::r:=by
 match s,h with
 | a::b::c::r,h=>
   simp only[List.isPrefixOf,Bool.and_true,Bool.and_eq_true,beq_iff_eq]at h;obtain⟨h1,h2,h3⟩:=h;exact⟨r,by rw[<-h1,<-h2,<-h3]⟩
 | [],h=>simp[List.isPrefixOf]at h
 | [_],h=>simp[List.isPrefixOf]at h
 | [_,_],h=>simp[List.isPrefixOf]at h
theorem unE_index:∀s:Bs,(Lib.index s [37,50,101]= -1->unE s=s)/\(∀i:Nat,Lib.index s [37,50,101]=i->unE s=s.take i++46::unE (s.drop (i+3)))
 | []=>⟨fun _=>by unfold unE;rfl,fun i h=>by
  have:Lib.index [] ([37,50,101]:Bs)= -1:=rfl;rw[this]at h;omega⟩
 | b::l=>by
   obtain⟨ih1,ih2⟩:=unE_index l;rw[Lib.index];cases hp:([37,50,101]:Bs).isPrefixOf (b::l)with
   | true=>
     obtain⟨r,hr⟩:=pre_form hp;simp only[if_true];refine⟨fun h=>by omega,fun i h=>?_⟩;have hi:i=0:=by omega
     subst hi;rw[hr,unE_yes];rfl
   | false=>
     simp only[Bool.false_eq_true,if_false];have hge:=Lib.index_ge l [37,50,101];by_cases h1:Lib.index l [37,50,101]= -1
     ·rw[h1];refine⟨fun _=>by rw[unE_no hp,ih1 h1],fun i h=>?_⟩;have:((-1:Int)== -1)=true:=rfl;rw[this,if_pos rfl]at h;omega
     ·have hb:(Lib.index l [37,50,101]== -1)=false:=by rw[beq_eq_false_iff_ne];exact h1
      rw[hb];simp only[Bool.false_eq_true,if_false];refine⟨fun h=>by omega,fun i h=>?_⟩;obtain⟨j,rfl⟩:∃j,i=j+1:=⟨i-1,by omega⟩;rw[unE_no hp,ih2 j (by omega)];rfl
theorem replaceK_unE:∀(f:Nat) (s:Bs),s.length<f->Lib.replaceK [37,50,101] [46] (Lib.countFrom [37,50,101] f s) s=unE s
 | 0,s,h=>by omega
 | f+1,s,h=>by
   obtain⟨h1,h2⟩:=unE_index s;rw[Lib.countFrom];by_cases hi:Lib.index s [37,50,101]= -1
   ·rw[hi];show Lib.replaceK _ _ 0 s=_;rw[h1 hi];rfl
   ·have hge:=Lib.index_ge s [37,50,101];obtain⟨i,hin⟩:∃i:Nat,Lib.index s [37,50,101]=i:=⟨(Lib.index s [37,50,101]).toNat,by omega⟩;have hb:(Lib.index s [37,50,101]== -1)=false:=by rw[beq_eq_false_iff_ne];exact hi
    rw[hb];simp only[Bool.false_eq_true,if_false];rw[Nat.add_comm 1,Lib.replaceK_hit _ _ _ _ i hin,hin]
    have hd:(s.drop (i+([37,50,101]:Bs).length)).length<f:=by
     have hs:s≠[]:=by
      rintro rfl;exact hi rfl
     have hl:0<s.length:=by
      cases s with
      | nil=>exact absurd rfl hs
      | cons _ _=>simp
     rw[List.length_drop];show s.length-(i+3)<f;omega
    have ih:=replaceK_unE f (s.drop (i+([37,50,101]:Bs).length)) hd;have e:((i:Int)).toNat=i:=by omega
    rw[e,ih,h2 i hin]
    simp
theorem replace_unE (s:Bs):Lib.replaceAll s [37,50,101] [46]=unE s:=by
 unfold Lib.replaceAll Lib.replace;rw[if_neg (by decide)];unfold Lib.replaceNum;rw[if_pos (Or.inl (by decide))];exact replaceK_unE (s.length+1) s (by omega)
end Lz
namespace Go.Proofs.YtfepgodjaeddgaaGreatDoor
open Go.RowKit
theorem rowAt {w:World} {R:Nat} {cs:Array Value} {t:TypeId} {fr:Nat×Nat} (h:w.heap[R]? =some (.cells cs t fr)) (k:Nat) (v:Value) (hv:cs[k]? =some v):w.cell? ⟨R,k,none⟩=some v:=by
 rw[cell_of_row w R k _ _ _ h];exact hv
theorem rowFz {w:World} {R:Nat} {cs:Array Value} {t:TypeId} (h:w.heap[R]? =some (.cells cs t (0,0))) (k:Nat):w.frozen? ⟨R,k,none⟩=false:=by simp[World.frozen?,h]
theorem rowSet {w:World} {R:Nat} {cs:Array Value} {t:TypeId} {fr:Nat×Nat} (h:w.heap[R]? =some (.cells cs t fr)) (k:Nat) (v:Value) {cs':Array Value} (hc:cs.setIfInBounds k v=cs'):(w.setCell ⟨R,k,none⟩ v).heap[R]? =some (.cells cs' t fr):=by
 rw[setCell_eq_setRow w R k cs _ _ v h,<-hc];exact setRow_heap _ _ _ _ _ _ h
theorem row_lt {w:World} {R:Nat} {o:Obj} (h:w.heap[R]? =some o):R<w.heap.size:=(Array.getElem?_eq_some_iff.1 h).1
theorem setCell_other {w:World} {p:Addr} {k:Nat} (h:k≠p.block) (v:Value):(w.setCell p v).heap[k]? =w.heap[k]? :=Below.heap_setCell w p v k h
theorem grown_setCell (w:World) (p:Addr) (v:Value):w.grownBy (w.setCell p v) (some p.block):=
 ⟨rfl,rfl,rfl,by simp,fun k _ hk=>setCell_other (fun e=>hk (by rw[e])) v⟩
theorem add_block (a:Addr) (j:Nat) (hs:a.spot=none):(a.add j).block=a.block:=by
 obtain⟨G,off,spot⟩:=a;obtain rfl:spot=none:=hs;unfold Addr.add;split<;>rfl
theorem infoTxt:(Tryz.prog.info? 9).map (fun i=>(i.zero,i.size,i.bytes))=some (some (.string ⟨#[]⟩),1,16):=by kernel_rfl
def PathOwn (w:World) (B:Nat) (v:Value) (xs:List ByteArray):Prop:=
 w.ownsRow B 9 1 v xs.length (xs.map Value.string)\/
 ∃a:Addr,v=.slice (some a) xs.length xs.length/\a.spot=none/\(∀j u,(xs.map Value.string)[j]? =some u->w.cell? (a.add j)=some u)/\(xs≠[]->∃cur fz,w.heap[a.block]? =some (.cells cur 9 fz))
theorem PathOwn.nil (w:World) (B:Nat):PathOwn w B (.slice none 0 0) []:=.inl (World.ownsRow_nil w B _ _)
theorem PathOwn.kept {w w':World} {B:Nat} {v:Value} {xs:List ByteArray} {row:Option Nat} (h:PathOwn w B v xs) (hg:w.grownBy w' row)
  (hr:∀k,row=some k->∃cs t fr,w.heap[k]? =some (.cells cs t fr)/\t≠9):PathOwn w' B v xs:=by
 rcases h with h|⟨a,rfl,hs,hc,hb⟩
 ·refine .inl (h.kept hg ?_);rcases h.2 with⟨rfl,_⟩|⟨g,cap,cur,rfl,_,hgb,_⟩
  ·exact .inl rfl
  ·refine .inr fun e=>?_;obtain⟨cs,t,fr,h1,h2⟩:=hr g e.symm;rw[hgb]at h1;injection h1 with h1
   injection h1 with _ h3 _
   exact h2 h3.symm
 ·by_cases hx:xs=[]
  ·subst hx;exact .inr ⟨a,rfl,hs,fun j u hj=>by simp at hj,fun h=>absurd rfl h⟩
  ·obtain⟨cur,fz,hcur⟩:=hb hx
   have hne:some a.block≠row:=fun e=>by
    obtain⟨cs,t,fr,h1,h2⟩:=hr a.block e.symm;rw[hcur]at h1;injection h1 with h1
    injection h1 with _ h3 _
    exact h2 h3.symm
   have hk:=hg.block a.block (row_lt hcur) hne;exact .inr ⟨a,rfl,hs,fun j u hj=>(World.cell?_of_block (a:=a.add j) (by rw[add_block a j hs];exact hk)).trans (hc j u hj),fun _=>⟨cur,fz,by rw[hk];exact hcur⟩⟩
theorem below_grown {w w':World} (hb:Below w.heap.size w w'):w.grownBy w' none:=⟨hb.os,hb.tape,hb.output,hb.size,fun k hk _=>hb.block k hk⟩
theorem PathOwn.below {w w':World} {B:Nat} {v:Value} {xs:List ByteArray} (h:PathOwn w B v xs) (hb:Below w.heap.size w w'):PathOwn w' B v xs:=
 h.kept (below_grown hb) (fun k hk=>by cases hk)
theorem PathOwn.setCell {w:World} {B M:Nat} {v:Value} {xs:List ByteArray} {cs:Array Value} {t:TypeId} {fr:Nat×Nat} (h:PathOwn w B v xs) (hM:w.heap[M]? =some (.cells cs t fr)) (ht:t≠9) (k:Nat) (u:Value):PathOwn (w.setCell ⟨M,k,none⟩ u) B v xs:=
 h.kept (grown_setCell w ⟨M,k,none⟩ u) (fun k hk=>by injection hk with hk;subst hk;exact⟨cs,t,fr,hM,ht⟩)
theorem PathOwn.form {w:World} {B:Nat} {v:Value} {xs:List ByteArray} (h:PathOwn w B v xs):∃a c,v=.slice a xs.length c/\xs.length<=c/\∀(j:Nat) (x:ByteArray),xs[j]? =some x->∃G off,a=some ⟨G,off,none⟩/\G<w.heap.size/\w.cell? ⟨G,off+j,none⟩=some (.string x):=by
 rcases h with h|⟨a,rfl,hs,hc,hb⟩
 ·rcases h.2 with⟨rfl,h0⟩|⟨g,cap,cur,rfl,hgb,hg,hn,hcm,hcs,htk⟩
  ·refine⟨none,0,by rw[h0],by omega,fun j x hj=>?_⟩;rw[List.eq_nil_of_length_eq_zero h0]at hj
   simp at hj
  ·refine⟨_,cap,rfl,hn,fun j x hj=>⟨g,0,rfl,row_lt hg,?_⟩⟩;have:=h.cells (g:=g) rfl j (.string x) (by rw[List.getElem?_map,hj];rfl);rw[addr_add]at this;rw[Nat.zero_add];exact this
 ·refine⟨some a,xs.length,rfl,Nat.le_refl _,fun j x hj=>?_⟩;obtain⟨G,off,spot⟩:=a;obtain rfl:spot=none:=hs;have:=hc j (.string x) (by rw[List.getElem?_map,hj];rfl);rw[show(⟨G,off,none⟩:Addr).add j=⟨G,off+j,none⟩ by simp[Addr.add]]at this;exact⟨G,off,rfl,World.block_lt_of_cell? _ _ this,this⟩
theorem PathOwn.pop {w:World} {B:Nat} {a:Option Addr} {n c:Nat} {xs:List ByteArray} (h:PathOwn w B (.slice a n c) xs) (hn:1<=xs.length):PathOwn w B (.slice a (n-1) (n-1)) xs.dropLast:=by
 have hl:xs.dropLast.length=n-1:=by
  obtain⟨a',c',e,_⟩:=h.form;injection e with _ e2 _
  rw[List.length_dropLast,e2]
 have hsub:∀(j:Nat) (u:Value),(xs.dropLast.map Value.string)[j]? =some u->(xs.map Value.string)[j]? =some u:=by
  intro j u hj;rw[List.getElem?_map,Option.map_eq_some_iff]at hj;obtain⟨x,hx,rfl⟩:=hj;have hjl:=(List.getElem?_eq_some_iff.1 hx).1;rw[List.length_dropLast]at hjl;rw[List.getElem?_map,<-List.getElem?_take_of_lt (show j<xs.length-1 from hjl),<-List.dropLast_eq_take,hx];rfl
 rcases h with h|⟨p,e,hs,hc,hb⟩
 ·rcases h.2 with⟨e,h0⟩|⟨g,cap,cur,e,hgb,hg,hnc,hcm,hcs,htk⟩
  ·omega
  ·injection e with e1 e2 e3
   subst e1;exact .inr ⟨⟨g,0,none⟩,by rw[hl],rfl,fun j u hj=>h.cells (g:=g) (by rw[Value.ownBlock]) j u (hsub j u hj),fun _=>⟨cur,(0,0),hg⟩⟩
 ·injection e with e1 e2 e3
  subst e1;exact .inr ⟨p,by rw[hl],hs,fun j u hj=>hc j u (hsub j u hj),fun _=>hb (fun e=>by rw[e]at hn;simp at hn)⟩
section
variable {P:Program} (w:World)
theorem run_append_full (base:Nat) (t ty e:TypeId) (i:TypeInfo) (z:Value) (bytes:Nat) (ht:P.underlying t=some (.slice e)) (hi:P.info? e=some i) (hz:i.zero=some z)
  (hsize:i.size=1) (hby:i.bytes=bytes) (hzs:z.cells.size=1)
  (p:Addr) (n:Nat) (xs:List Value) (hlx:xs.length=n) (hcx:∀j u,xs[j]? =some u->w.cell? (p.add j)=some u)
  (a:Addr) (c:Nat) (x:Value) (hx:w.cell? (a.add 0)=some x)
  (h63:n+1<=maxLen) (hbytes:(n+1)*bytes<=140737488355328) (hbase:base<=w.heap.size):
  ∃v' w',(Builtin.append_ #[t,t] ty #[.slice (some p) n n,.slice (some a) 1 c]).run P w=.ok v' w'/\w'.ownsRow base e 1 v' (n+1) (xs++[x])/\w.grownBy w' none:=by
 have hsmall:n+1<=9223372036854775807:=by simp only[maxLen]at h63;omega
 have hr:=run_append_grow (P:=P) w t ty e i z ht hi hz p n n xs (by rw[hsize,Nat.mul_one];exact hlx) hcx a 1 c [x] (by rw[hsize];rfl) (fun j u hj=>by
  have:j<1:=by simpa using(List.getElem?_eq_some_iff.1 hj).1
  obtain rfl:j=0:=by omega
  obtain rfl:x=u:=by simpa using hj
  exact hx) (by omega) (by omega) (growslice_fits (by omega) (by rw[hby];exact hbytes))
 refine⟨_,_,hr,⟨by simp[hlx],.inr ⟨w.heap.size,_,_,rfl,hbase,heap_alloc_new w.drew _,grownCap_ge _ _ _ _,grownCap_le_maxLen w (n+1) n e h63,?_,?_⟩⟩,⟨rfl,rfl,rfl,by simp,fun k hk _=>Below.heap_alloc w.drew _ k hk⟩⟩
 ·have hge:=grownCap_ge w (n+1) n e;simp only[Array.size_append,List.size_toArray,size_zeroCells,hzs,hlx,List.length_singleton];omega
 ·simp only[Array.toList_append,List.append_assoc];rw[<-List.append_assoc,show(n+1)*1=(xs++[x]).length by simp[hlx]];exact List.take_left
end
theorem run_append_path (w:World) (base:Nat) (ty:TypeId) (v:Value) (xs:List ByteArray) (hown:PathOwn w base v xs) (a:Addr) (c:Nat) (p:ByteArray) (hp:w.cell? (a.add 0)=some (.string p))
  (hlen:xs.length<=1000000000) (hbase:base<=w.heap.size):
  ∃v' w' row,(Builtin.append_ #[22,22] ty #[v,.slice (some a) 1 c]).run Tryz.prog w=.ok v' w'/\PathOwn w' base v' (xs++[p])/\w.grownBy w' row/\(∀k,row=some k->base<=k/\∃cur fr,w.heap[k]? =some (.cells cur 9 fr)):=by
 obtain⟨i0,hi,hz0,hz1,hz2⟩:=info_parts infoTxt;have hm:(xs++[p]).map Value.string=xs.map Value.string++[.string p]:=by simp
 rcases hown with h|⟨q,rfl,hs,hc,hb⟩
 ·have hn1:∀j u,[Value.string p][j]? =some u->w.cell? (a.add j)=some u:=fun j u hj=>by
   have:j<1:=by simpa using(List.getElem?_eq_some_iff.1 hj).1
   obtain rfl:j=0:=by omega
   obtain rfl:Value.string p=u:=by simpa using hj
   exact hp
  obtain⟨v',w',hr,h2,h3,_⟩:=run_append_own (P:=Tryz.prog) w base 22 ty 9 i0 (.string ⟨#[]⟩) 1 16 Tryz.underlying22 hi hz0 hz1 hz2 rfl (by decide) v xs.length (xs.map Value.string) h a 1 c [.string p] rfl hn1 (by simp[Value.oneCell']) (by unfold maxLen;omega) (by omega) hbase;refine⟨v',w',v.ownBlock,hr,.inl ?_,h3,fun k hk=>?_⟩
  ·rw[hm,List.length_append];exact h2
  ·rcases h.2 with⟨rfl,_⟩|⟨g,cap,cur,rfl,hgb,hg,_⟩
   ·cases hk
   ·injection hk with hk;subst hk;exact⟨hgb,cur,_,hg⟩
 ·obtain⟨v',w',hr,h2,h3⟩:=run_append_full (P:=Tryz.prog) w base 22 ty 9 i0 (.string ⟨#[]⟩) 16 Tryz.underlying22 hi hz0 hz1 hz2 rfl q xs.length (xs.map Value.string) (by simp) hc a c (.string p) hp (by unfold maxLen;omega) (by omega) hbase;refine⟨v',w',none,hr,.inl ?_,h3,fun k hk=>by cases hk⟩;rw[hm,List.length_append];exact h2
def RowOk (B:Nat) (w:World) (row:Option Nat):Prop:=∀k,row=some k->B<=k/\∃cur fr,w.heap[k]? =some (.cells cur 9 fr)
theorem wpList_append_path (w:World) {ops:Array Oper} {rest:List Oper} {o:Oper} {a:Act} {Q:Exit->Act->World->Prop} (hgd:o.guard=none) (s x:Operand)
  (ho:o.op=.call {callee:=.builtin .append,args:= #[s,x],argTypes:= #[22,22]})
  (base:Nat) (v:Value) (xs:List ByteArray) (hs:a.eval s=v) (hown:PathOwn w base v xs) (ad:Addr) (c:Nat) (p:ByteArray) (hx:a.eval x=.slice (some ad) 1 c) (hp:w.cell? (ad.add 0)=some (.string p))
  (hlen:xs.length<=1000000000) (hbase:base<=w.heap.size)
  (h:∀g n' c' w' row,PathOwn w' base (.slice (some g) n' c') (xs++[p])->w.grownBy w' row->RowOk base w row->wpList Tryz.prog ops Q rest (a.put o.dst (.slice (some g) n' c')) w'):
  wpList Tryz.prog ops Q (o::rest) a w:=by
 refine wpList_plain hgd fun K hK=>?_;obtain⟨v',w',row,hr,h2,h3,h4⟩:=run_append_path w base o.type v xs hown ad c p hp hlen hbase;obtain⟨g,c',rfl,_,hcells⟩:=h2.form;obtain⟨G,off,rfl,_,_⟩:=hcells xs.length p (by simp);unfold Oper.wp execOp;simp only[ho,resolve,invoke,builtin,Sem.run_bind,Sem.run_pure,Result.andThen_ok,List.map_toArray,List.map_cons,List.map_nil,hs,hx,hr];exact hK _ _ (h _ _ _ w' row h2 h3 h4)
structure MkV where
 sch:ByteArray
 usr:ByteArray
 pas:ByteArray
 hh:Bool
 hst:ByteArray
 prt:Int
 opq:Bool
 pv:Value
 xs:List ByteArray
 hq:Bool
 hf:Bool
 qry:ByteArray
 frg:ByteArray
def MkV.url (x:MkV):Lz.UrlL:=⟨x.sch.data.toList,x.usr.data.toList,x.pas.data.toList,x.hh,x.hst.data.toList,x.prt,x.opq,x.xs.map (·.data.toList),x.hq,x.hf,x.qry.data.toList,x.frg.data.toList⟩
def slashB (sp:Bool):ByteArray:=if sp then⟨#[47,92]⟩else⟨#[47]⟩
structure MkAt (B M:Nat) (w:World) (x:MkV) (sp:Bool) (sl:ByteArray):Prop where
 row:w.heap[M]? =some (.cells #[.string x.sch,.string x.usr,.string x.pas,.bool x.hh,.string x.hst,.int .i64 x.prt,.bool x.opq,x.pv,.bool x.hq,.bool x.hf,.string x.qry,.string x.frg,.bool sp,.string sl] 77 (0,0))
 own:PathOwn w B x.pv x.xs
 le:B<=M
def MkIs (B M:Nat) (w:World) (u:Lz.UrlL):Prop:=∃x,MkAt B M w x (Lz.specP x.sch.data.toList) (slashB (Lz.specP x.sch.data.toList))/\Hid (x.url=u)
theorem MkAt.below {B M:Nat} {w w':World} {x:MkV} {sp:Bool} {sl:ByteArray} (h:MkAt B M w x sp sl) (hb:Below w.heap.size w w'):MkAt B M w' x sp sl:=
 ⟨by rw[hb.block M (row_lt h.row)];exact h.row,h.own.below hb,h.le⟩
theorem MkIs.below {B M:Nat} {w w':World} {u:Lz.UrlL} (h:MkIs B M w u) (hb:Below w.heap.size w w'):MkIs B M w' u:=by
 obtain⟨x,hx,hu⟩:=h;exact⟨x,hx.below hb,hu⟩
theorem MkIs.form {B M:Nat} {w:World} {u:Lz.UrlL} (h:MkIs B M w u):∃(sch usr pas:ByteArray) (hh:Bool) (hst:ByteArray) (prt:Int) (opq:Bool) (a:Option Addr) (c:Nat) (xs:List ByteArray) (hq hf:Bool) (qry frg:ByteArray),
  MkAt B M w ⟨sch,usr,pas,hh,hst,prt,opq,.slice a xs.length c,xs,hq,hf,qry,frg⟩ (Lz.specP sch.data.toList) (slashB (Lz.specP sch.data.toList))/\
  u=⟨sch.data.toList,usr.data.toList,pas.data.toList,hh,hst.data.toList,prt,opq,xs.map (fun x:ByteArray=>x.data.toList),hq,hf,qry.data.toList,frg.data.toList⟩/\xs.length<=c/\
  ∀(j:Nat) (x:ByteArray),xs[j]? =some x->∃G off,a=some ⟨G,off,none⟩/\G<w.heap.size/\w.cell? ⟨G,off+j,none⟩=some (.string x):=by
 obtain⟨⟨sch,usr,pas,hh,hst,prt,opq,pv,xs,hq,hf,qry,frg⟩,hm,hu⟩:=h;obtain⟨a,c,hpv,hc,hcells⟩:=hm.own.form;have hpv':pv=.slice a xs.length c:=hpv;subst hpv';exact⟨sch,usr,pas,hh,hst,prt,opq,a,c,xs,hq,hf,qry,frg,hm,hu.out.symm,hc,hcells⟩
def RMk (B M:Nat) (u:Lz.UrlL) (w:World) (e:Ending) (w':World):Prop:=e=.returned (.tuple #[])/\Below B w w'/\MkIs B M w' u
theorem maker_ne:77≠9:=by decide
theorem below_grownP {B:Nat} {a w w':World} {row:Option Nat} (h:Below B a w) (hg:w.grownBy w' row) (hB:B<=w.heap.size) (hr:RowOk B w row):Below B a w':=
 h.grown hg hB fun k hk=>(hr k hk).1
theorem row_grownP {w w':World} {row:Option Nat} {B M:Nat} {cs:Array Value} (hM:w.heap[M]? =some (.cells cs 77 (0,0))) (hg:w.grownBy w' row) (hr:RowOk B w row):w'.heap[M]? =some (.cells cs 77 (0,0)):=by
 rw[hg.block M (row_lt hM) (fun e=>?_)]
 ·exact hM
 ·obtain⟨_,cur,fr,h1⟩:=hr M e.symm;rw[hM]at h1;injection h1 with h1
  injection h1 with _ h2 _
  exact maker_ne h2
end Go.Proofs.YtfepgodjaeddgaaGreatDoor
namespace Lz
open Go
theorem bind_path {r:UR} {f:UrlL->UR} {u v:UrlL} (hr:∀x,r=.ok x->x.path=u.path/\x.scheme=u.scheme) (hf:∀x y,f x=.ok y->y.path=x.path/\y.scheme=x.scheme) (h:r.bind f=.ok v):v.path=u.path/\v.scheme=u.scheme:=by
 cases r with
 | er n=>cases h
 | ok x=>exact⟨((hf x v h).1).trans (hr x rfl).1,((hf x v h).2).trans (hr x rfl).2⟩
theorem hostU_path {u v:UrlL} {s:Bs} (h:hostU u s=.ok v):v.path=u.path/\v.scheme=u.scheme:=by
 unfold hostU at h;split at h
 ·cases h
 ·injection h with h;subst h;exact⟨rfl,rfl⟩
theorem portU_path {u v:UrlL} {s:Bs} (h:portU u s=.ok v):v.path=u.path/\v.scheme=u.scheme:=by
 unfold portU at h;split at h
 ·cases h
 ·split at h
  ·cases h
  ·split at h<;>(injection h with h;subst h;exact⟨rfl,rfl⟩)
theorem placeU_path {u v:UrlL} {s:Bs} (h:placeU u s=.ok v):v.path=u.path/\v.scheme=u.scheme:=by
 unfold placeU at h;split at h
 ·split at h
  ·cases h
  ·exact bind_path (fun x hx=>hostU_path hx) (fun x y hy=>portU_path hy) h
 ·split at h
  ·cases h
  ·exact bind_path (fun x hx=>hostU_path hx) (fun x y hy=>portU_path hy) h
theorem authU_path {u v:UrlL} {s:Bs} (h:authU u s=.ok v):v.path=u.path/\v.scheme=u.scheme:=by
 unfold authU at h;split at h
 ·split at h
  ·cases h
  ·exact⟨(placeU_path h).1,(placeU_path h).2⟩
 ·exact placeU_path h
end Lz
namespace Go.Proofs.YtfepgodjaeddgaaGreatDoor
open Go.RowKit
theorem disableO (w:World):(callFunc 268 #[]).run Tryz.prog w=.ok (.value (.tuple #[])) w:=run_call_mark0 Tryz.func268 (by kernel_rfl) (by kernel_rfl) (by kernel_rfl) .disable (by kernel_rfl) w
theorem enableO (w:World):(callFunc 270 #[]).run Tryz.prog w=.ok (.value (.tuple #[])) w:=run_call_mark0 Tryz.func270 (by kernel_rfl) (by kernel_rfl) (by kernel_rfl) .enable (by kernel_rfl) w
theorem acquireO (a:Addr) (w:World):(callFunc 271 #[.pointer (some a)]).run Tryz.prog w=.ok (.value (.tuple #[])) w:=run_call_marked Tryz.func271 (by kernel_rfl) (by kernel_rfl) (by kernel_rfl) .acquire (by kernel_rfl) a w
theorem releaseO (a:Addr) (w:World):(callFunc 273 #[.pointer (some a)]).run Tryz.prog w=.ok (.value (.tuple #[])) w:=run_call_marked Tryz.func273 (by kernel_rfl) (by kernel_rfl) (by kernel_rfl) .releaseMerge (by kernel_rfl) a w
theorem storeO (a:Addr) (x:Value) (u:FrameMode) (w:World) (hc:w.cell? a=some x) (hz:w.frozen? a=false):
  CallsD Tryz.prog 223 #[.pointer (some a),.bool true] u w fun e u' w'=>u'=u/\(e=.returned (.tuple #[])/\w'=w.drew.setCell a (.int .u32 1)):=by
 have hc':w.drew.cell? a=some x:=by go_simp
 have hz':w.drew.frozen? a=false:=by go_simp
 have hst:=run_call_store (P:=Tryz.prog) Tryz.func249 (by kernel_rfl) (by kernel_rfl) (by kernel_rfl) (by kernel_rfl) (k:=.u32) (y:=1) hc' hz'
 go_enter_d Tryz.func223,Tryz.ntmps223
 go_wp2
 go_region_calls
 all_goals (go_end0;exact⟨rfl,rfl⟩)
theorem unlockO (a:Addr) (u:FrameMode) (w:World) (hc:w.cell? a=some (.int .i32 1)) (hz:w.frozen? a=false):
  CallsD Tryz.prog 222 #[.pointer (some a)] u w fun e u' w'=>u'=u/\(e=.returned (.tuple #[])/\w'=w.setCell a (.int .i32 0)):=by
 have hd:=disableO;have he:=enableO;have hr:=releaseO;have hadd:=run_call_add (P:=Tryz.prog) Tryz.func274 (by kernel_rfl) (by kernel_rfl) (by kernel_rfl) .i32 (by kernel_rfl) (y:= -1) (s:=0) hc hz (by simp[go_sem];rfl);have hcv:=run_convert_to_unsafe (P:=Tryz.prog) (src:=276) (dst:=133) Tryz.underlying276 Tryz.underlying133 (by kernel_rfl) hc
 go_enter_d Tryz.func222,Tryz.ntmps222
 go_wp2
 go_end0
 go_wp2
 go_end0
 exact⟨rfl,rfl⟩
theorem lockO (a:Addr) (w:World) (hc:w.cell? a=some (.int .i32 0)) (hz:w.frozen? a=false):
  Calls Tryz.prog 221 #[.pointer (some a)] w fun e w'=>e=.returned (.tuple #[])/\w'=w.setCell a (.int .i32 1):=by
 have hd:=disableO;have he:=enableO;have ha:=acquireO;have hcas:=run_call_cas_hit (P:=Tryz.prog) Tryz.func269 (by kernel_rfl) (by kernel_rfl) (by kernel_rfl) .i32 (by kernel_rfl) (y:=1) hc hz;have hc':(w.setCell a (.int .i32 1)).cell? a=some (.int .i32 1):=World.cell?_setCell_same w a _ hc;have hcv:=run_convert_to_unsafe (P:=Tryz.prog) (src:=276) (dst:=133) Tryz.underlying276 Tryz.underlying133 (by kernel_rfl) hc';go_enter Tryz.func221,Tryz.ntmps221
 go_wp2
 first |go_end0|(simp only[Exit.inBlock,Exit.then];refine bodyPost_ret (results_none rfl _ _ _) rfl ?_)|refine bodyPost_ret (results_none rfl _ _ _) rfl ?_
 go_wp2
 go_end0
 exact⟨rfl,rfl⟩
structure BsRep (w:World) (g:Nat):Prop where
 row:∃cs:Array Value,w.heap[g]? =some (.cells cs 230 (0,0))/\(∀k:Nat,k<256->(if k=9\/k=10\/k=13 then ∃A c,cs[k]? =some (.slice (some A) 0 c)else cs[k]? =some (.slice none 0 0)))/\
  ∃G c cs2,cs[256]? =some (.slice (some ⟨G,0,none⟩) 3 c)/\w.heap[G]? =some (.cells cs2 9 (0,0))/\cs2[0]? =some (.string ⟨#[13]⟩)/\cs2[1]? =some (.string ⟨#[10]⟩)/\cs2[2]? =some (.string ⟨#[9]⟩)
theorem BsRep.kept {w w':World} {g:Nat} (h:BsRep w g) (hk:∀(k:Nat) (cs:Array Value) (t:TypeId),w.heap[k]? =some (.cells cs t (0,0))->t=230\/t=9->w'.heap[k]? =w.heap[k]?):BsRep w' g:=by
 obtain⟨cs,h1,h2,G,c,cs2,h3,h4,h5⟩:=h.row;exact⟨cs,by rw[hk g cs _ h1 (.inl rfl)];exact h1,h2,G,c,cs2,h3,by rw[hk G cs2 _ h4 (.inr rfl)];exact h4,h5⟩
def RepRow (w:World) (b:Nat) (d s e:Int) (rv ov:Value):Prop:=w.heap[b]? =some (.cells #[.int .u32 d,.int .i32 s,.int .u32 e,rv,ov] 150 (0,0))
theorem BsRep.set {w:World} {g b:Nat} {d s e:Int} {rv ov:Value} (h:BsRep w g) (hr:RepRow w b d s e rv ov) (k:Nat) (v:Value):BsRep (w.setCell ⟨b,k,none⟩ v) g:=
 h.kept fun j _ _ hj ht=>setCell_other (fun e=>by
  have e':j=b:=e;rw[e',show w.heap[b]? =_ from hr]at hj;injection hj with hj
  injection hj with _ h2 _
  rcases ht with ht|ht<;>(rw[ht]at h2;exact absurd h2 (by decide))) v
theorem BsRep.below {w w':World} {g:Nat} (h:BsRep w g) (hb:Below w.heap.size w w'):BsRep w' g:=h.kept fun j _ _ hj _=>hb.block j (row_lt hj)
theorem RepRow.set {w:World} {b:Nat} {d s e:Int} {rv ov:Value} (h:RepRow w b d s e rv ov) (k:Nat) (v:Value) {d' s':Int} {rv' ov':Value} (hc:(#[.int .u32 d,.int .i32 s,.int .u32 e,rv,ov]:Array Value).setIfInBounds k v= #[.int .u32 d',.int .i32 s',.int .u32 e,rv',ov']):RepRow (w.setCell ⟨b,k,none⟩ v) b d' s' e rv' ov':=rowSet h k v hc
def RBuilt1 (B b:Nat) (d s e:Int) (w:World) (w':World):Prop:=Below B w w'/\∃g,RepRow w' b d s e (.iface 231 (.pointer (some ⟨g,0,none⟩))) (.slice none 0 0)/\BsRep w' g
theorem slowO (B b:Nat) (e:Int) (rv ov:Value) (w:World) (hBb:B<=b) (hrow:RepRow w b 0 0 e rv ov)
  (cB:∀W,Below B w W->W=w.setCell ⟨b,1,none⟩ (.int .i32 1)->Calls Tryz.prog 137 #[.pointer (some ⟨b,0,none⟩)] W fun e' W'=>e'=.returned (.tuple #[])/\RBuilt1 B b 0 1 e W W'):
  Calls Tryz.prog 192 #[.pointer (some ⟨b,0,none⟩),.func (.func 137) #[.pointer (some ⟨b,0,none⟩)] #[]] w fun e' w'=>e'=.returned (.tuple #[])/\RBuilt1 B b 1 0 e w w':=by
 have c0:=rowAt hrow 0 (.int .u32 0) rfl;have c1:=rowAt hrow 1 (.int .i32 0) rfl;have f0:=rowFz hrow 0;have f1:=rowFz hrow 1;have hl:=run_call_load (P:=Tryz.prog) Tryz.func220 (by kernel_rfl) (by kernel_rfl) (by kernel_rfl) .u32 (by kernel_rfl) (w:=w.setCell ⟨b,1,none⟩ (.int .i32 1)) (a:=⟨b,0,none⟩) (x:=0) ((World.cell?_setCell_other _ ⟨b,1,none⟩ ⟨b,0,none⟩ _ (by simp)).trans c0);have hnot:∀(x:Bool) (w:World),(Op.unary .not (.bool x)).run Tryz.prog w=.ok (.bool (!x)) w:=fun _ _=>rfl;have hb1:Below B w (w.setCell ⟨b,1,none⟩ (.int .i32 1)):=(Below.refl B w).setCell (p:=⟨b,1,none⟩) hBb _;have CB:=Ih (cB _ hb1 rfl);have Hb1:=Ih hb1;clear cB hb1
 go_enter_defers Tryz.func192,Tryz.ntmps192
 go_wp2_with (first |(go_at_call 221;refine(lockO ⟨b,1,none⟩ _ (by go_simp) (by go_simp)).mono ?_;rintro e w' ⟨rfl,rfl⟩)|(go_at_call 191;go_in)|(go_at_call 137;refine CB.out.mono ?_;rintro e2 w2 ⟨rfl,hw2⟩))
 obtain⟨hbw,g,hr2,hbs⟩:=hw2;have d0:=rowAt hr2 0 (.int .u32 0) rfl;have d1:=rowAt hr2 1 (.int .i32 1) rfl;have z0:=rowFz hr2 0;have z1:=rowFz hr2 1;have hr3:RepRow (w2.drew.setCell ⟨b,0,none⟩ (.int .u32 1)) b 1 1 e (.iface 231 (.pointer (some ⟨g,0,none⟩))) (.slice none 0 0):=RepRow.set (w:=w2.drew) hr2 0 (.int .u32 1) (by simp);have hbs3:BsRep (w2.drew.setCell ⟨b,0,none⟩ (.int .u32 1)) g:=BsRep.set (w:=w2.drew) (hbs.kept fun _ _ _ _ _=>rfl) hr2 0 _;have hr4:=RepRow.set hr3 1 (.int .i32 0) (d':=1) (s':=0) (rv':=.iface 231 (.pointer (some ⟨g,0,none⟩))) (ov':=.slice none 0 0) (by simp);have hbs4:=BsRep.set hbs3 hr3 1 (.int .i32 0);refine leaves_cons (f:=223) (args:= #[.pointer (some ⟨b,0,none⟩),.bool true]) (by simp) (by simp[go_sem]) ?_;refine(storeO ⟨b,0,none⟩ (.int .u32 0) .returning _ d0 z0).mono ?_;rintro e3 u3 w3 ⟨rfl,rfl,rfl⟩;refine leaves_cons (f:=222) (args:= #[.pointer (some ⟨b,1,none⟩)]) (by simp[settle]) (by simp[go_sem]) ?_;refine(unlockO ⟨b,1,none⟩ _ _ (rowAt hr3 1 _ rfl) (rowFz hr3 1)).mono ?_;rintro e3 u3 w3 ⟨rfl,rfl,rfl⟩
 have hB4:Below B w ((w2.drew.setCell ⟨b,0,none⟩ (.int .u32 1)).setCell ⟨b,1,none⟩ (.int .i32 0)):=((Hb1.out.trans hbw).drew.setCell (p:=⟨b,0,none⟩) hBb _).setCell (p:=⟨b,1,none⟩) hBb _;have HF:Hid (RBuilt1 B b 1 0 e w ((w2.drew.setCell ⟨b,0,none⟩ (.int .u32 1)).setCell ⟨b,1,none⟩ (.int .i32 0))):=⟨hB4,g,hr4,hbs4⟩;clear hr2 hr3 hr4 hbs hbs3 hbs4 hB4
 simp[Leaves,settle,results,Tryz.results192]
 exact HF.out
theorem doO (B b:Nat) (e:Int) (rv ov:Value) (w:World) (hBb:B<=b) (hrow:RepRow w b 0 0 e rv ov)
  (cB:∀W,Below B w W->W=w.setCell ⟨b,1,none⟩ (.int .i32 1)->Calls Tryz.prog 137 #[.pointer (some ⟨b,0,none⟩)] W fun e' W'=>e'=.returned (.tuple #[])/\RBuilt1 B b 0 1 e W W'):
  Calls Tryz.prog 136 #[.pointer (some ⟨b,0,none⟩),.func (.func 137) #[.pointer (some ⟨b,0,none⟩)] #[]] w fun e' w'=>e'=.returned (.tuple #[])/\RBuilt1 B b 1 0 e w w':=by
 have c0:=rowAt hrow 0 (.int .u32 0) rfl;have hl:=run_call_load (P:=Tryz.prog) Tryz.func220 (by kernel_rfl) (by kernel_rfl) (by kernel_rfl) .u32 (by kernel_rfl) c0;have hnot:∀(x:Bool) (w:World),(Op.unary .not (.bool x)).run Tryz.prog w=.ok (.bool (!x)) w:=fun _ _=>rfl;have cS:=Ih (slowO B b e rv ov w hBb hrow cB);clear cB;go_enter Tryz.func136,Tryz.ntmps136
 go_wp2_with (first |(go_at_call 192;refine cS.out.mono ?_;rintro e w' ⟨rfl,hw2⟩)|(go_at_call 191;go_in))
 go_end0
 exact⟨rfl,hw2⟩
end Go.Proofs.YtfepgodjaeddgaaGreatDoor
namespace Go.Proofs
open Go.Shelf
def Tryz.lays138_ren:Go.Shelf.Ren:=⟨fun|138=>86|195=>128|218=>130|143=>87|219=>131|217=>159|225=>186|224=>187|267=>188|266=>202|314=>218|n=>n,fun|9=>9|3=>3|4=>4|5=>5|0=>0|46=>100|146=>216|51=>138|n=>n,fun|1=>2|n=>n⟩
theorem Tryz.lays138:Go.Proofs.Lays.n138 Tryz.prog Tryz.lays138_ren:=by repeat' first |kernel_rfl|(intro w;rfl)|(intro w;kernel_rfl)|decide|constructor
open Go.RowKit Go.Lib in
theorem Tryz.strings_Count_one (s:ByteArray) (c:UInt8) (w:World):
 Calls Tryz.prog 86 #[.string s,.string ⟨#[c]⟩] w fun e w'=>e=.returned (.int .i64 (Lib.countByte s.data.toList c))/\w'=w:=Any.strings_Count_one Tryz.lays138 s c w
end Go.Proofs
namespace Go.Proofs.YtfepgodjaeddgaaGreatDoor
open Go.RowKit
theorem Count_c (s:ByteArray) (c:UInt8) (w:World):Calls Tryz.prog 86 #[.string s,.string ⟨#[c]⟩] w fun e w'=>e=.returned (.int .i64 ((s.data.toList.count c:Nat):Int))/\w=w':=
 (Tryz.strings_Count_one s c w).mono fun _ _ ⟨h1,h2⟩=>⟨h1,h2.symm⟩
end Go.Proofs.YtfepgodjaeddgaaGreatDoor
