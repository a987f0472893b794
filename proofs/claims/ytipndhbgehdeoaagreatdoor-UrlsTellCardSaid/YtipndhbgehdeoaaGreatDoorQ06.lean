/-
  The contracts of the library that the walks of this seat lean on, at this dump: each one application of a summary that the kit proves.
-/
import Derived.Test.YtipndhbgehdeoaaGreatDoorQ05
set_option maxRecDepth 100000
namespace Lz
open Go
theorem low1_low1 (c:UInt8):low1 (low1 c)=low1 c:=by revert c;exact byte_all (by decide +kernel)
theorem low_low (l:Bs):low (low l)=low l:=by
 unfold low;rw[List.map_map];exact List.map_congr_left fun c _=>low1_low1 c
theorem dec_digit (n:Nat):∀c∈Lib.decDigits n,isDigit c=true:=by
 induction n using Nat.strongRecOn with
 | _ n ih=>
   intro c hc;rw[Lib.decDigits]at hc;have key:∀d,d<10->isDigit (UInt8.ofNat (48+d))=true:=by decide
   split at hc
   ·rename_i h;rw[List.mem_singleton.1 hc];exact key n h
   ·rcases List.mem_append.1 hc with hc|hc
    ·exact ih (n / 10) (by omega) c hc
    ·rw[List.mem_singleton.1 hc];exact key (n%10) (by omega)
theorem dec_ne (n:Nat):Lib.decDigits n≠[]:=by
 rw[Lib.decDigits];split<;>simp
theorem digit_nat {c:UInt8} (h:isDigit c=true):48<=c.toNat/\c.toNat<=57:=by
 revert h;revert c
 exact fun{c}=>byte_all (p:=fun c=>isDigit c=true->48<=c.toNat/\c.toNat<=57) (by decide +kernel) c
theorem parse_app (acc:Nat) (d:Nat) (hd:d<10):∀(l:Bs) (u:Nat),Lib.parseUint10 acc l=.ok u->u<1844674407370955161->Lib.parseUint10 acc (l++[UInt8.ofNat (48+d)])=.ok (u*10+d)
 | [],u,h,hu=>by
   simp only[Lib.parseUint10]at h;injection h with h
   subst h
   have e:(UInt8.ofNat (48+d)).toNat=48+d:=by
    rw[UInt8.toNat_ofNat'];omega
   simp only[List.nil_append,Lib.parseUint10,e];rw[if_pos ⟨by omega,by omega⟩,if_neg (by omega),if_neg (by omega)];congr 1;omega
 | c::r,u,h,hu=>by
   simp only[Lib.parseUint10]at h;simp only[List.cons_append,Lib.parseUint10];split at h
   ·rename_i h1;rw[if_pos h1];split at h
    ·cases h
    ·rename_i h2;rw[if_neg h2];split at h
     ·cases h
     ·rename_i h3;rw[if_neg h3];exact parse_app _ d hd r u h hu
   ·cases h
theorem parse_dec (n:Nat) (hn:n<1000000):Lib.parseUint10 0 (Lib.decDigits n)=.ok n:=by
 induction n using Nat.strongRecOn with
 | _ n ih=>
   rw[Lib.decDigits];split
   ·rename_i h;have:=parse_app 0 n h [] 0 rfl (by omega);simpa using this
   ·rename_i h;have:=parse_app 0 (n%10) (by omega) _ _ (ih (n / 10) (by omega) (by omega)) (by omega);rw[this];congr 1;omega
theorem atoi_itoa {n:Int} (h0:0<=n) (h1:n<=65535):Lib.atoiAll (Lib.itoa n)=.ok n/\allB isDigit (Lib.itoa n)=true/\(Lib.itoa n).length<=21:=by
 have e:Lib.itoa n=Lib.decDigits n.toNat:=by unfold Lib.itoa;rw[if_neg (by omega)]
 rw[e];have hd:=dec_digit n.toNat;have hp:=parse_dec n.toNat (by omega);have hne:=dec_ne n.toNat;refine⟨?_,?_,?_⟩
 ·cases hl:Lib.decDigits n.toNat with
  | nil=>exact absurd hl hne
  | cons c r=>
    rw[hl]at hp hd;obtain⟨a,b⟩:=digit_nat (hd c (by simp))
    have hm:Lib.parseMag (c::r)=.ok n.toNat:=by
     unfold Lib.parseMag;rw[if_neg (by simp),hp]
    unfold Lib.atoiAll
    dsimp only
    rw[if_neg (by omega),hm]
    dsimp only
    rw[if_neg (by omega),if_neg (by omega),if_neg (by omega)];congr 1;omega
 ·unfold allB;rw[List.all_eq_true.2 hd];cases hl:Lib.decDigits n.toNat with
  | nil=>exact absurd hl hne
  | cons c r=>rfl
 ·have:∀(k m:Nat),m<10^(k+1)->(Lib.decDigits m).length<=k+1:=by
   intro k
   induction k with
   | zero=>intro m h;rw[Lib.decDigits,dif_pos (by simpa using h)];simp
   | succ k ih=>
     intro m h;rw[Lib.decDigits];split
     ·simp
     ·rw[List.length_append];have:=ih (m / 10) (by rw[Nat.pow_succ]at h;omega)
      simp
      omega
  have:=this 4 n.toNat (by omega);omega
theorem index_cons_miss {c b:UInt8} {l r:Bs} (h:b≠c):Lib.index (b::l) (c::r)=if Lib.index l (c::r)== -1 then -1 else Lib.index l (c::r)+1:=by
 rw[Lib.index]
 have:((c::r:Bs).isPrefixOf (b::l))=false:=by
  have:(c==b)=false:=by simpa using fun e=>h e.symm
  simp[List.isPrefixOf,this]
 rw[this];rfl
theorem index_here (s b:Bs) (hs:s≠[]):Lib.index (s++b) s=0:=by
 cases s with
 | nil=>exact absurd rfl hs
 | cons c r=>
   rw[List.cons_append,Lib.index];have:((c::r:Bs).isPrefixOf (c::(r++b)))=true:=List.isPrefixOf_iff_prefix.2 ⟨b,rfl⟩;rw[this];rfl
theorem cut_miss (l s:Bs) (h:Lib.index l s= -1):Lib.cut l s=(l,[],false):=by
 unfold Lib.cut;rw[h];rfl
theorem indexByte_absent (c:UInt8):∀(a:Bs),c∉a->Lib.indexByte a c= -1
 | [],_=>rfl
 | x::a,h=>by
   have hx:(x==c)=false:=by simpa using fun e=>h (by simp[e])
   have ih:=indexByte_absent c a (fun e=>h (by simp[e]));rw[Lib.indexByte,hx,ih];rfl
end Lz
namespace Go.Proofs.YtipndhbgehdeoaaGreatDoor
open Go.RowKit
def u8s (l:List UInt8):List Value:=l.map fun c=>Value.int .u8 c.toNat
theorem u8s_snoc (l:List UInt8) (c:UInt8):u8s l++[.int .u8 (c.toNat:Int)]=u8s (l++[c]):=by simp[u8s]
theorem Tryz.infoU8:(Tryz.prog.info? 5).map (fun i=>(i.zero,i.size,i.bytes))=some (some (.int .u8 0),1,1):=by kernel_rfl
theorem cell_one (w:World) (v:Value) (T:TypeId) (j:Nat) (u:Value) (h:[v][j]? =some u):(w.alloc (.cells #[v] T)).cell? ((⟨w.heap.size,0,none⟩:Addr).add j)=some u:=by
 rw[addr_add,World.cell?_alloc_mark];have hj:j<1:=by have:=(List.getElem?_eq_some_iff.1 h).1;simpa using this
 obtain rfl:j=0:=by omega
 simpa using h
theorem Below.grown1 {B:Nat} {a w w':World} {o:Obj} {v:Value} {base e size n:Nat} {xs:List Value} (h:Below B a w) (hown:w.ownsRow base e size v n xs) (hg:(w.alloc o).grownBy w' v.ownBlock) (hB:B<=w.heap.size) (hb:B<=base):Below B a w':=
 (h.alloc hB o).grown hg (by simp;omega) (fun k hk=>Nat.le_trans hb ((hown.alloc o).lt k hk).1)
theorem conv_nil (w:World):(convert 44 9 (.slice none 0 0)).run Tryz.prog w=.ok (.string ⟨#[]⟩) w:=by kernel_rfl
theorem conv_own {w:World} {base:Nat} {v:Value} {n:Nat} {l:List UInt8} (h:w.ownsRow base 5 1 v n (u8s l)):
  (convert 44 9 v).run Tryz.prog w=.ok (.string ⟨l.toArray⟩) w:=by
 have hl:l.length=n:=by have:=h.1;simpa [u8s]using this
 rcases h.2 with⟨rfl,h0⟩|⟨g,cap,cur,rfl,hbg,hg,hn,hcm,hcs,htk⟩
 ·obtain rfl:l=[]:=List.length_eq_zero_iff.1 (by omega);exact conv_nil w
 ·rw[<-hl];refine run_convert_bytes_back (P:=Tryz.prog) w 44 9 5 ⟨g,0,none⟩ cap l Tryz.underlying44 Tryz.underlying5 Tryz.underlying9 ?_;intro j hj;rw[addr_add]
  have h1:cur[j]? =some (.int .u8 (l[j].toNat:Int)):=by
   have h2:(u8s l)[j]? =some (.int .u8 (l[j].toNat:Int)):=by simp[u8s,hj]
   rw[<-htk,List.getElem?_take]at h2;split at h2
   ·simpa using h2
   ·cases h2
  simp[World.cell?,hg,h1]
end Go.Proofs.YtipndhbgehdeoaaGreatDoor
namespace Go.Proofs
open Go.Shelf
def Tryz.lays156_ren:Go.Shelf.Ren:=⟨fun|156=>206|165=>166|166=>22|169=>24|240=>45|241=>193|276=>73|277=>213|n=>n,fun|31=>23|9=>9|3=>3|4=>4|0=>0|20=>20|72=>46|76=>47|70=>43|37=>44|75=>38|127=>66|164=>91|5=>5|80=>49|n=>n,fun|n=>n⟩
theorem Tryz.lays156:Go.Proofs.Lays.n156 Tryz.prog Tryz.lays156_ren:=by repeat' first |kernel_rfl|(intro w;rfl)|(intro w;kernel_rfl)|decide|constructor
theorem Tryz.Builder_Extra_156:Builder.Extra Tryz.prog Tryz.lays156_ren:=by repeat' first |kernel_rfl|(intro w;rfl)|(intro w;kernel_rfl)|decide|constructor
open Go.RowKit in
theorem Tryz.strings_Join (bk o c:Nat) (xs:List ByteArray) (sep:ByteArray) (w:World) (hcells:∀(j:Nat) x,xs[j]? =some x->w.cell? ⟨bk,o+j,none⟩=some (.string x)) (hbk:bk<w.heap.size) (hN:xs.length<=140737488355328) (hcap:xs.length<=c) (hlen:(Lib.join (xs.map (·.data.toList)) sep.data.toList).length<=140737488355328):
 Calls Tryz.prog 206 #[.slice (some ⟨bk,o,none⟩) xs.length c,.string sep] w fun e w'=>e=.returned (.string ⟨(Lib.join (xs.map (·.data.toList)) sep.data.toList).toArray⟩)/\Below w.heap.size w w':=Any.strings_Join Tryz.lays156 Tryz.Builder_Extra_156 bk o c xs sep w hcells hbk hN hcap hlen
def Tryz.lays160_ren:Go.Shelf.Ren:=⟨fun|160=>208|232=>217|231=>96|227=>97|234=>218|233=>98|236=>219|235=>99|228=>125|271=>134|151=>84|197=>113|120=>153|152=>118|260=>135|137=>62|119=>142|224=>110|225=>109|217=>101|266=>127|n=>n,fun|9=>9|4=>4|3=>3|5=>5|117=>118|116=>117|0=>0|124=>121|21=>21|105=>144|46=>81|119=>168|139=>185|138=>184|n=>n,fun|3=>2|4=>3|n=>n⟩
theorem Tryz.lays160:Go.Proofs.Lays.n160 Tryz.prog Tryz.lays160_ren:=by repeat' first |kernel_rfl|(intro w;rfl)|(intro w;kernel_rfl)|decide|constructor
def Tryz.laysPu14_ren:Go.Shelf.Ren:=⟨fun|14=>215|16=>221|17=>222|19=>223|20=>224|21=>225|22=>226|23=>227|24=>228|25=>229|27=>46|26=>230|28=>74|29=>108|30=>129|31=>130|32=>131|33=>132|35=>149|34=>148|36=>150|37=>151|38=>152|39=>168|40=>169|n=>n,fun|9=>9|3=>3|22=>153|24=>38|25=>249|4=>4|34=>262|5=>5|36=>81|37=>44|0=>0|39=>263|21=>21|44=>267|47=>66|50=>270|48=>268|2=>2|52=>152|55=>156|59=>180|60=>96|20=>20|61=>181|65=>238|66=>239|67=>49|n=>n,fun|0=>7|1=>8|2=>1|3=>5|4=>6|n=>n⟩
theorem Tryz.laysPu14:Go.Proofs.LaysPu.n14 Tryz.prog Tryz.laysPu14_ren:=by repeat' first |kernel_rfl|(intro w;rfl)|(intro w;kernel_rfl)|decide|constructor
open Go.RowKit in
theorem Tryz.strconv_ParseUint_10_at8_ok (s:ByteArray) (hmax:s.size<=9223372036854775806) (u:Nat) (h:Lib.parseUintB 8 s.data.toList=.ok u) (w:World):
 Calls Tryz.prog 215 #[.string s,.int .i64 10,.int .i64 8] w fun e w'=>e=.returned (.tuple #[.int .u64 u,.nilIface])/\(w'=w\/w'=Lib.bytesWorld w 5 s):=Any.strconv_ParseUint_10_at8_ok Tryz.laysPu14 s hmax u h w
open Go.RowKit in
theorem Tryz.strconv_ParseUint_10_at8_syntax (s:ByteArray) (hlim:s.size<=281474976710656) (h:Lib.parseUintB 8 s.data.toList=Lib.parseUintB 8 []) (ev:Value) (w:World) (hv:w.cell? ⟨7,0,none⟩=some ev) (hev:ev=.nilIface\/∃te pe,ev=.iface te pe):
 Calls Tryz.prog 215 #[.string s,.int .i64 10,.int .i64 8] w fun e w'=>∃N,e=.returned (.tuple #[.int .u64 0,.iface 263 (.pointer (some ⟨N,0,none⟩))])/\w.heap.size<=N/\w'.heap[N]? =some (.cells #[.string ⟨#[80,97,114,115,101,85,105,110,116]⟩,.string s,ev] 267 (0,0))/\Below w.heap.size w w':=Any.strconv_ParseUint_10_at8_syntax Tryz.laysPu14 s hlim h ev w hv hev
open Go.RowKit in
theorem Tryz.strconv_ParseUint_10_at8_range (s:ByteArray) (hlim:s.size<=281474976710656) (h:Lib.parseUintB 8 s.data.toList=.range) (ev:Value) (w:World) (hv:w.cell? ⟨8,0,none⟩=some ev) (hev:ev=.nilIface\/∃te pe,ev=.iface te pe):
 Calls Tryz.prog 215 #[.string s,.int .i64 10,.int .i64 8] w fun e w'=>∃N,e=.returned (.tuple #[.int .u64 255,.iface 263 (.pointer (some ⟨N,0,none⟩))])/\w.heap.size<=N/\w'.heap[N]? =some (.cells #[.string ⟨#[80,97,114,115,101,85,105,110,116]⟩,.string s,ev] 267 (0,0))/\Below w.heap.size w w':=Any.strconv_ParseUint_10_at8_range Tryz.laysPu14 s hlim h ev w hv hev
def Tryz.lays144_ren:Go.Shelf.Ren:=⟨fun|144=>202|143=>167|219=>75|217=>101|225=>109|224=>110|267=>111|266=>127|314=>133|n=>n,fun|9=>9|4=>4|3=>3|5=>5|46=>81|146=>158|51=>96|n=>n,fun|1=>0|n=>n⟩
theorem Tryz.lays144:Go.Proofs.Lays.n144 Tryz.prog Tryz.lays144_ren:=by repeat' first |kernel_rfl|(intro w;rfl)|(intro w;kernel_rfl)|decide|constructor
open Go.RowKit Go.Lib in
theorem Tryz.strings_Contains (s sub:ByteArray) (m:Int) (w:World) (hs:s.size<4294967281) (hm:w.cell? ⟨0,0,none⟩=some (.int .i64 m)):
 Calls Tryz.prog 202 #[.string s,.string sub] w fun e w'=>e=.returned (.bool (Lib.contains s.data.toList sub.data.toList))/\w'=w:=Any.strings_Contains Tryz.lays144 s sub m w hs hm
end Go.Proofs
namespace Lz
open Go
def hex1 (d:Nat):UInt8:=if d<10 then UInt8.ofNat (48+d)else UInt8.ofNat (87+d)
theorem hexV_hex1:∀d:Fin 16,hexV (hex1 d.val)=some d.val:=by decide +kernel
theorem hexV_hex {d:Nat} (h:d<16):hexV (hex1 d)=some d:=hexV_hex1 ⟨d,h⟩
theorem hexD_small {n:Nat} (h:n<16):hexD n=[hex1 n]:=by
 rw[hexD,dif_pos h,Nat.mod_eq_of_lt h];unfold hex1;rfl
theorem hexD_big {n:Nat} (h:¬n<16):hexD n=hexD (n / 16)++[hex1 (n%16)]:=by
 rw[hexD,dif_neg h];unfold hex1;rfl
def isHexD (c:UInt8):Bool:=isDigit c||(97<=c&&c<=102)
theorem hex1_is1:∀d:Fin 16,isHexD (hex1 d.val)=true:=by decide +kernel
theorem hex1_is {d:Nat} (h:d<16):isHexD (hex1 d)=true:=hex1_is1 ⟨d,h⟩
theorem hexD_chars (n:Nat):∀c∈hexD n,isHexD c=true:=by
 induction n using Nat.strongRecOn with
 | ind n ih=>
   by_cases h:n<16
   ·rw[hexD_small h];intro c hc;rw[List.mem_singleton]at hc;rw[hc];exact hex1_is h
   ·rw[hexD_big h];intro c hc;rcases List.mem_append.1 hc with hc|hc
    ·exact ih (n / 16) (by omega) c hc
    ·rw[List.mem_singleton]at hc;rw[hc];exact hex1_is (by omega)
theorem hexD_ne (n:Nat):hexD n≠[]:=by
 rw[hexD];simp
theorem hexD_len (k:Nat):∀n,n<16^(k+1)->(hexD n).length<=k+1:=by
 induction k with
 | zero=>intro n h;rw[hexD_small (by simpa using h)];simp
 | succ k ih=>
   intro n h;by_cases h1:n<16
   ·rw[hexD_small h1];simp
   ·rw[hexD_big h1];have:=ih (n / 16) (by rw[Nat.pow_succ]at h;omega);simp only[List.length_append,List.length_singleton];omega
def hexF (n:Nat) (c:UInt8):Option Nat:=(hexV c).map (n*16+·)
theorem hexD_fold (n:Nat):(hexD n).foldlM hexF 0=some n:=by
 induction n using Nat.strongRecOn with
 | ind n ih=>
   by_cases h:n<16
   ·rw[hexD_small h]
    simp[List.foldlM_cons,hexF,hexV_hex h]
   ·rw[hexD_big h,List.foldlM_append,ih (n / 16) (by omega)];simp only[Option.bind_eq_bind,Option.bind_some,List.foldlM_cons,List.foldlM_nil,hexF,hexV_hex (show n%16<16 by omega),Option.map_some];show some _=_;congr 1;omega
theorem piece_hexD {n:Nat} (h:n<65536):pieceP (hexD n)=some n:=by
 unfold pieceP;have hl:=hexD_len 3 n (by simpa using h);rw[if_neg]
 ·exact hexD_fold n
 ·rintro(h1|h1)
  ·exact hexD_ne n h1
  ·omega
theorem hexV_lt16:∀c:UInt8,∀d,hexV c=some d->d<16:=by
 intro c;revert c;have:∀c:UInt8,(match hexV c with|some d=>decide (d<16)|none=>true)=true:=byte_all (by decide +kernel);intro c d h;have:=this c;rw[h]at this;simpa using this
theorem hexF_lt {l:Bs}:∀{n m:Nat},l.foldlM hexF n=some m->m<(n+1)*16^l.length:=by
 induction l with
 | nil=>intro n m h;simp at h;simp;omega
 | cons c r ih=>
   intro n m h;rw[List.foldlM_cons]at h;unfold hexF at h;cases hc:hexV c with
   | none=>rw[hc]at h;cases h
   | some d=>
     rw[hc]at h;have hd:=hexV_lt16 c d hc;have h2:=ih (n:=n*16+d) h;rw[List.length_cons,Nat.pow_succ];have:(n*16+d+1)*16^r.length<=((n+1)*16)*16^r.length:=Nat.mul_le_mul_right _ (by omega);rw[Nat.mul_comm (16^r.length) 16,<-Nat.mul_assoc];omega
theorem pieceP_lt {x:Bs} {n:Nat} (h:pieceP x=some n):n<65536:=by
 unfold pieceP at h;split at h
 ·cases h
 ·rename_i hx;have h2:=hexF_lt (l:=x) (n:=0) (m:=n) h;have:(16:Nat)^x.length<=16^4:=Nat.pow_le_pow_right (by omega) (by omega);omega
theorem splitC_free (k:UInt8):∀l:Bs,(∀c∈l,c≠k)->splitC k l=[l]
 | [],_=>rfl
 | c::l,h=>by
   rw[splitC,if_neg (by simpa using h c (by simp)),splitC_free k l (fun x hx=>h x (by simp[hx]))]
theorem splitC_app (k:UInt8):∀(a b:Bs),(∀c∈a,c≠k)->splitC k (a++k::b)=a::splitC k b
 | [],b,_=>by simp[splitC]
 | c::a,b,h=>by
   show splitC k (c::(a++k::b))=_;rw[splitC,if_neg (by simpa using h c (by simp)),splitC_app k a b (fun x hx=>h x (by simp[hx]))]
theorem splitC_join (k:UInt8):∀ls:List Bs,ls≠[]->(∀x∈ls,∀c∈x,c≠k)->splitC k (joinP [k] ls)=ls
 | [],h,_=>absurd rfl h
 | [x],_,h=>by rw[joinP];exact splitC_free k x (h x (by simp))
 | x::y::r,_,h=>by
   rw[joinP,List.append_assoc,List.singleton_append,splitC_app k x _ (h x (by simp)),splitC_join k (y::r) (by simp) (fun z hz=>h z (by simp[hz]))]
theorem joinP_mem {sep:Bs}:∀{ls:List Bs} {c:UInt8},c∈joinP sep ls->c∈sep\/∃x∈ls,c∈x
 | [],c,h=>by simp[joinP]at h
 | [x],c,h=>Or.inr ⟨x,by simp,h⟩
 | x::y::r,c,h=>by
   rw[joinP]at h;rcases List.mem_append.1 h with h|h
   ·rcases List.mem_append.1 h with h|h
    ·exact Or.inr ⟨x,by simp,h⟩
    ·exact Or.inl h
   ·rcases joinP_mem h with h|⟨z,hz,hc⟩
    ·exact Or.inl h
    ·exact Or.inr ⟨z,by simp[hz],hc⟩
theorem joinP_ne {sep:Bs}:∀{ls:List Bs},ls≠[]->(∀x∈ls,x≠[])->joinP sep ls≠[]
 | [],h,_=>absurd rfl h
 | [x],_,h=>h x (by simp)
 | x::y::r,_,h=>by
   rw[joinP];have:=h x (by simp);cases x with
   | nil=>exact absurd rfl this
   | cons a b=>simp
theorem isHexD_not:∀c:UInt8,isHexD c=true->c≠58/\c≠46:=byte_all (by decide +kernel)
theorem hexD_not (n:Nat):∀c∈hexD n,c≠58/\c≠46:=fun c hc=>isHexD_not c (hexD_chars n c hc)
theorem told_row (last:Bool):∀l:List Nat,(∀n∈l,n<65536)->rowP last (l.map hexD)=some l
 | [],_=>rfl
 | n::l,h=>by
   have h46:(hexD n).contains 46=false:=by
    rw[Bool.eq_false_iff];intro hc;exact(hexD_not n 46 (List.contains_iff_mem.1 hc)).2 rfl
   rw[List.map_cons,rowP,h46,piece_hexD (h n (by simp)),told_row last l (fun m hm=>h m (by simp[hm]))]
   simp
theorem told_row_s (last:Bool) (l:List Nat) (h:∀n∈l,n<65536):rowS (toldP l) last=some l:=by
 unfold rowS;by_cases hl:l=[]
 ·rw[hl];rfl
 ·have hne:toldP l≠[]:=by
   unfold toldP;exact joinP_ne (by simpa using hl) (by intro x hx;obtain⟨n,_,rfl⟩:=List.mem_map.1 hx;exact hexD_ne n)
  rw[if_neg hne];unfold toldP;rw[splitC_join 58 _ (by simpa using hl) (by intro x hx c hc;obtain⟨n,_,rfl⟩:=List.mem_map.1 hx;exact(hexD_not n c hc).1)];exact told_row last l h
def oneCol:Bs->Bool
 | []=>true
 | [c]=>c != 58
 | c::d::r=>(c != 58||d != 58)&&oneCol (d::r)
theorem index_oneCol:∀(a b:Bs),oneCol a=true->Lib.index (a++58::58::b) [58,58]=a.length
 | [],b,_=>by rw[List.nil_append,show(58::58::b:Bs)=[58,58]++b from rfl,index_here _ _ (by simp)];rfl
 | [c],b,h=>by
   have hc:c≠58:=by simpa [oneCol]using h
   show Lib.index (c::([]++58::58::b)) [58,58]=_;rw[index_cons_miss hc,index_oneCol [] b rfl];rfl
 | c::d::r,b,h=>by
   simp only[oneCol,Bool.and_eq_true,Bool.or_eq_true,bne_iff_ne]at h;have ih:=index_oneCol (d::r) b h.2
   have hp:([58,58]:Bs).isPrefixOf (c::d::(r++58::58::b))=false:=by
    rw[Bool.eq_false_iff];intro hh;simp only[List.isPrefixOf,Bool.and_eq_true,beq_iff_eq]at hh;rcases h.1 with h1|h1
    ·exact h1 hh.1.symm
    ·exact h1 hh.2.1.symm
   show Lib.index (c::d::(r++58::58::b)) [58,58]=_;rw[Lib.index,hp];simp only[Bool.false_eq_true,if_false];rw[show(d::(r++58::58::b):Bs)=(d::r)++58::58::b from rfl,ih];rw[if_neg (by simp;omega)]
   simp
theorem index_oneCol_none:∀(a:Bs),oneCol a=true->Lib.index a [58,58]= -1
 | [],_=>rfl
 | [c],h=>by
   have hc:c≠58:=by simpa [oneCol]using h
   rw[index_cons_miss hc];rfl
 | c::d::r,h=>by
   simp only[oneCol,Bool.and_eq_true,Bool.or_eq_true,bne_iff_ne]at h;have ih:=index_oneCol_none (d::r) h.2
   have hp:([58,58]:Bs).isPrefixOf (c::d::r)=false:=by
    rw[Bool.eq_false_iff];intro hh;simp only[List.isPrefixOf,Bool.and_eq_true,beq_iff_eq]at hh;rcases h.1 with h1|h1
    ·exact h1 hh.1.symm
    ·exact h1 hh.2.1.symm
   rw[Lib.index,hp];simp only[Bool.false_eq_true,if_false];rw[ih];rfl
theorem oneCol_app:∀(x b:Bs),(∀c∈x,c≠58)->x≠[]->oneCol b=true->b.head? ≠some 58->oneCol (x++b)=true
 | [],_,_,h,_,_=>absurd rfl h
 | [c],[],h,_,_,_=>by simpa [oneCol]using h c (by simp)
 | [c],d::r,h,_,hb,_=>by
   show oneCol (c::d::r)=true;rw[oneCol,hb];simpa using Or.inl (h c (by simp))
 | c::d::r,b,h,_,hb,hh=>by
   show oneCol (c::d::(r++b))=true;rw[oneCol,show(d::(r++b):Bs)=(d::r)++b from rfl,oneCol_app (d::r) b (fun z hz=>h z (by simp[hz])) (by simp) hb hh];simpa using Or.inl (h c (by simp))
theorem oneCol_sep:∀(x b:Bs),(∀c∈x,c≠58)->x≠[]->oneCol b=true->b≠[]->b.head? ≠some 58->oneCol (x++58::b)=true
 | [],_,_,h,_,_,_=>absurd rfl h
 | [c],[],_,_,_,h,_=>absurd rfl h
 | [c],d::r,h,_,hb,_,hh=>by
   show oneCol (c::58::d::r)=true;have hd:d≠58:=by simpa using hh
   rw[oneCol,oneCol,hb]
   simp[h c (by simp),hd]
 | c::d::r,b,h,_,hb,hn,hh=>by
   show oneCol (c::d::(r++58::b))=true;rw[oneCol,show(d::(r++58::b):Bs)=(d::r)++58::b from rfl,oneCol_sep (d::r) b (fun z hz=>h z (by simp[hz])) (by simp) hb hn hh];simpa using Or.inl (h c (by simp))
theorem told_head (l:List Nat):(toldP l).head? ≠some 58:=by
 unfold toldP
 match l with
 | []=>simp[joinP]
 | [n]=>
   show(hexD n).head? ≠_;intro h;cases hx:hexD n with
   | nil=>rw[hx]at h;cases h
   | cons c r=>rw[hx]at h;exact(hexD_not n c (by rw[hx];simp)).1 (by simpa using h)
 | n::m::r=>
   show(hexD n++[58]++_).head? ≠_;intro h;cases hx:hexD n with
   | nil=>exact hexD_ne n hx
   | cons c r=>rw[hx]at h;exact(hexD_not n c (by rw[hx];simp)).1 (by simpa using h)
theorem told_ne {l:List Nat} (h:l≠[]):toldP l≠[]:=by
 unfold toldP;exact joinP_ne (by simpa using h) (by intro x hx;obtain⟨n,_,rfl⟩:=List.mem_map.1 hx;exact hexD_ne n)
theorem told_col:∀l:List Nat,oneCol (toldP l)=true
 | []=>rfl
 | [n]=>by
   have:=oneCol_app (hexD n) [] (fun c hc=>(hexD_not n c hc).1) (hexD_ne n) rfl (by simp);rw[List.append_nil]at this;exact this
 | n::m::r=>by
   show oneCol (hexD n++[58]++toldP (m::r))=true;rw[List.append_assoc,List.singleton_append];exact oneCol_sep _ _ (fun c hc=>(hexD_not n c hc).1) (hexD_ne n) (told_col (m::r)) (told_ne (by simp)) (told_head _)
theorem cut_told (l r:List Nat):Lib.cut (toldP l++[58,58]++toldP r) [58,58]=(toldP l,toldP r,true):=by
 have h:=index_oneCol (toldP l) (toldP r) (told_col l);unfold Lib.cut;rw[show toldP l++[58,58]++toldP r=toldP l++58::58::toldP r by simp,h];rw[if_pos (by omega)]
 simp
theorem cut_none (l:List Nat):Lib.cut (toldP l) [58,58]=(toldP l,[],false):=cut_miss _ _ (index_oneCol_none _ (told_col l))
def RunOk (a:List Nat) (f:Nat×Nat):Prop:=f=(0,0)\/(f.1+2<=f.2/\f.2<=a.length/\∀k,f.1<=k->k<f.2->a[k]? =some 0)
theorem zeros_all (l:List Nat):zerosP l<=l.length/\∀k,k<zerosP l->l[k]? =some 0:=by
 unfold zerosP
 induction l with
 | nil=>simp
 | cons x r ih=>
   rw[List.takeWhile_cons];by_cases h:x=0
   ·simp only[h,beq_self_eq_true,if_true,List.length_cons];refine⟨by omega,fun k hk=>?_⟩;cases k with
    | zero=>rfl
    | succ k=>simpa using ih.2 k (by omega)
   ·simp[h]
theorem run_ok (a:List Nat):∀(n i:Nat) (f:Nat×Nat),a.length-i=n->RunOk a f->RunOk a (runP i (a.drop i) f):=by
 intro n
 induction n with
 | zero=>intro i f hn hf;rw[List.drop_eq_nil_of_le (by omega)];exact hf
 | succ n ih=>
   intro i f hn hf;have hi:i<a.length:=by omega
   have hd:=List.drop_eq_getElem_cons hi;rw[hd,runP,<-hd];refine ih (i+1) _ (by omega) ?_;split
   ·rename_i hm;have hz:=zeros_all (a.drop i);rw[List.length_drop]at hz;refine Or.inr ⟨by show i+2<=i+zerosP _;omega,by show i+zerosP _<=_;omega,fun k h1 h2=>?_⟩;have:=hz.2 (k-i) (by show k-i<zerosP _;have:k<i+zerosP (a.drop i):=h2;have:i<=k:=h1;omega);rw[List.getElem?_drop,show i+(k-i)=k by have:i<=k:=h1;omega]at this;exact this
   ·exact hf
theorem run_ok0 (a:List Nat):RunOk a (runP 0 a (0,0)):=by
 have:=run_ok a _ 0 (0,0) rfl (Or.inl rfl)
 rwa [List.drop_zero]at this
theorem six_back (a:List Nat) (h8:a.length=8) (hl:∀n∈a,n<65536):sixP (textP a)=some a:=by
 unfold textP;have hr:=run_ok0 a;generalize runP 0 a (0,0)=f at hr⊢;obtain⟨f,t⟩:=f;by_cases he:f=t
 ·rw[if_pos he];unfold sixP;rw[cut_none]
  have hne:(toldP a).isEmpty=false:=by
   rw[List.isEmpty_eq_false_iff];exact told_ne (by intro h;rw[h]at h8;cases h8)
  simp only[hne,told_row_s _ a hl,show rowS [] true=some []from rfl,List.append_nil,List.length_nil,Nat.add_zero,h8,Lib.hasPrefix]
  simp
 ·rcases hr with hr|⟨h1,h2,h3⟩
  ·exact absurd (by injection hr with a b;rw[a,b]) he
  ·simp only at h1 h2 h3;rw[if_neg (by exact he)];unfold sixP;rw[cut_told]
   have hp:Lib.hasPrefix (toldP (a.drop t)) [58]=false:=by
    rw[Bool.eq_false_iff];intro hh;unfold Lib.hasPrefix at hh;have:=told_head (a.drop t);cases hx:toldP (a.drop t)with
    | nil=>rw[hx]at hh;cases hh
    | cons c r=>rw[hx]at hh this;simp[List.isPrefixOf]at hh;exact this (by simp[hh])
   simp only[hp,told_row_s _ (a.take f) (fun n hn=>hl n (List.mem_of_mem_take hn)),told_row_s _ (a.drop t) (fun n hn=>hl n (List.mem_of_mem_drop hn))];simp only[Bool.not_true,Bool.false_and,Bool.or_self,Bool.false_eq_true,if_false,if_true,List.length_take,List.length_drop];rw[if_neg (by omega)];congr 1
   apply List.ext_getElem?
   intro k;by_cases hk:k<f
   ·rw[List.append_assoc,List.getElem?_append_left (by simp;omega),List.getElem?_take,if_pos hk]
   ·rw[List.append_assoc,List.getElem?_append_right (by simp;omega)];by_cases hkt:k<t
    ·rw[List.getElem?_append_left (by simp;omega),List.getElem?_replicate,if_pos (by simp;omega),h3 k (by omega) hkt]
    ·rw[List.getElem?_append_right (by simp;omega),List.getElem?_drop];congr 1
     simp;omega
theorem bytesP_ok {x:Bs} {l:List Nat} (h:bytesP x=some l):l.length=4/\∀n∈l,n<256:=by
 unfold bytesP at h;cases hm:(splitC 46 x).mapM byteP with
 | none=>rw[hm]at h;cases h
 | some m=>
   rw[hm]at h
   have:∀(xs:List Bs) (m:List Nat),xs.mapM byteP=some m->∀n∈m,n<256:=by
    intro xs
    induction xs with
    | nil=>intro m h n hn;simp at h;rw[h]at hn;cases hn
    | cons x r ih=>
      intro m h n hn;rw[List.mapM_cons]at h;cases hx:byteP x with
      | none=>rw[hx]at h;cases h
      | some v=>
        rw[hx]at h;cases hr:r.mapM byteP with
        | none=>rw[hr]at h;cases h
        | some ms=>
          rw[hr]at h;have h:some (v::ms)=some m:=h;injection h with h
          rw[<-h]at hn;rcases List.mem_cons.1 hn with rfl|hn
          ·unfold byteP at hx;split at hx
           ·rename_i u hu;have:=Lib.parseUintB_le hu;split at hx
            ·injection hx with hx;omega
            ·cases hx
           ·cases hx
          ·exact ih ms hr n hn
   simp only at h;split at h
   ·injection h with h;rw[<-h];exact⟨by assumption,this _ _ hm⟩
   ·cases h
theorem four_form {b:List Nat} (h:b.length=4):∃p q s t,b=[p,q,s,t]:=by
 cases b with
 | nil=>cases h
 | cons p b=>cases b with
   | nil=>cases h
   | cons q b=>cases b with
     | nil=>cases h
     | cons s b=>cases b with
       | nil=>cases h
       | cons t b=>cases b with
         | nil=>exact⟨p,q,s,t,rfl⟩
         | cons _ _=>simp at h
theorem rowP_ok (last:Bool):∀(ls:List Bs) (l:List Nat),rowP last ls=some l->∀n∈l,n<65536
 | [],l,h,n,hn=>by simp[rowP]at h;rw[h]at hn;cases hn
 | x::r,l,h,n,hn=>by
   rw[rowP]at h;split at h
   ·cases hb:bytesP x with
    | none=>rw[hb]at h;cases h
    | some b=>
      rw[hb]at h;obtain⟨h4,hlt⟩:=bytesP_ok hb;obtain⟨p,q,s,t,rfl⟩:=four_form h4;simp only[Option.map_some,List.getD_cons_zero,List.getD_cons_succ]at h;injection h with h
      rw[<-h]at hn;have:=hlt p (by simp);have:=hlt q (by simp);have:=hlt s (by simp);have:=hlt t (by simp);simp only[List.mem_cons,List.not_mem_nil,or_false]at hn;rcases hn with rfl|rfl<;>omega
   ·cases hp:pieceP x with
    | none=>rw[hp]at h;cases h
    | some v=>
      rw[hp]at h;simp only at h;cases hr:rowP last r with
      | none=>rw[hr]at h;cases h
      | some m=>
        rw[hr]at h;simp only[Option.map_some]at h;injection h with h
        rw[<-h]at hn;rcases List.mem_cons.1 hn with rfl|hn
        ·exact pieceP_lt hp
        ·exact rowP_ok last r m hr n hn
theorem rowS_ok {s:Bs} {last:Bool} {l:List Nat} (h:rowS s last=some l):∀n∈l,n<65536:=by
 unfold rowS at h;split at h
 ·injection h with h;rw[<-h];intro n hn;cases hn
 ·exact rowP_ok _ _ _ h
theorem six_ok {s:Bs} {a:List Nat} (h:sixP s=some a):a.length=8/\∀n∈a,n<65536:=by
 unfold sixP at h;simp only at h;split at h
 ·cases h
 ·split at h
  ·rename_i x y hx hy;have h1:=rowS_ok hx;have h2:=rowS_ok hy;split at h
   ·split at h
    ·cases h
    ·injection h with h
     rw[<-h];refine⟨by simp;omega,fun n hn=>?_⟩;simp only[List.mem_append,List.mem_replicate]at hn;rcases hn with(hn|hn)|hn
     ·exact h1 n hn
     ·omega
     ·exact h2 n hn
   ·split at h
    ·injection h with h
     rw[<-h];refine⟨by simpa using by assumption,fun n hn=>?_⟩;rcases List.mem_append.1 hn with hn|hn
     ·exact h1 n hn
     ·exact h2 n hn
    ·cases h
  ·cases h
end Lz
namespace Go.Proofs
open Go.Shelf
open Go.RowKit in
theorem Tryz.strings_Join_none (a:Option Addr) (c:Nat) (sep:ByteArray) (w:World):
 Calls Tryz.prog 206 #[.slice a 0 c,.string sep] w fun e w'=>e=.returned (.string ⟨#[]⟩)/\w'=w:=Any.strings_Join_none Tryz.lays156 Tryz.Builder_Extra_156 a c sep w
def Tryz.lays119_ren:Go.Shelf.Ren:=⟨fun|119=>142|n=>n,fun|21=>21|4=>4|n=>n,fun|n=>n⟩
theorem Tryz.lays119:Go.Proofs.Lays.n119 Tryz.prog Tryz.lays119_ren:=by repeat' first |kernel_rfl|(intro w;rfl)|(intro w;kernel_rfl)|decide|constructor
theorem Tryz.utf8_ValidRune (r:Int) (w:World):
 Calls Tryz.prog 142 #[.int .i32 r] w fun e w'=>e=.returned (.bool (Lib.validRune r))/\w'=w:=Any.utf8_ValidRune Tryz.lays119 r w
end Go.Proofs
