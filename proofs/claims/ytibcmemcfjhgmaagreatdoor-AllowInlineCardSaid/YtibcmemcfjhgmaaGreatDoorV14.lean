/-
  Plain laws: the numbers of lazaretref04 and lazaretref05 are those of packages digest and longs. No condition.
-/
import Derived.Test.YtibcmemcfjhgmaaGreatDoorV13
import Derived.Test.YtibcmemcfjhgmaaGreatDoorV12
import Derived.Deep.AppendLies
import Derived.Lib.QuoteLoop
import Derived.Lib.AppendZeros
set_option maxHeartbeats 4000000
set_option maxRecDepth 100000
namespace Lz
open Go
theorem yQ {r:UR} {f:au->UR} {u v:au} (hr:∀x,r=.ok x->x.path=u.path/\x.scheme=u.scheme) (hf:∀x y,f x=.ok y->y.path=x.path/\y.scheme=x.scheme) (h:r.bind f=.ok v):v.path=u.path/\v.scheme=u.scheme:=by
 cases r with
 | er n=>cases h
 | ok x=>exact⟨((hf x v h).1).trans (hr x rfl).1,((hf x v h).2).trans (hr x rfl).2⟩
theorem uF {u v:au} {s:Bs} (h:gn u s=.ok v):v.path=u.path/\v.scheme=u.scheme:=by
 unfold gn at h;split at h
 ·cases h
 ·injection h with h;subst h;exact⟨rfl,rfl⟩
theorem uD {u v:au} {s:Bs} (h:ew u s=.ok v):v.path=u.path/\v.scheme=u.scheme:=by
 unfold ew at h;split at h
 ·cases h
 ·split at h
  ·cases h
  ·split at h<;>(injection h with h;subst h;exact⟨rfl,rfl⟩)
theorem mH {u v:au} {s:Bs} (h:eV u s=.ok v):v.path=u.path/\v.scheme=u.scheme:=by
 unfold eV at h;split at h
 ·split at h
  ·cases h
  ·exact yQ (fun x hx=>uF hx) (fun x y hy=>uD hy) h
 ·split at h
  ·cases h
  ·exact yQ (fun x hx=>uF hx) (fun x y hy=>uD hy) h
theorem Ee {u v:au} {s:Bs} (h:jk u s=.ok v):v.path=u.path/\v.scheme=u.scheme:=by
 unfold jk at h;split at h
 ·split at h
  ·cases h
  ·exact⟨(mH h).1,(mH h).2⟩
 ·exact mH h
end Lz
namespace Go.Proofs.YtibcmemcfjhgmaaGreatDoor
open Go.RowKit
theorem C0 (w:World):(callFunc 284 #[]).run Tryz.prog w=.ok (.value (.tuple #[])) w:=run_call_mark0 Tryz.func284 (by kernel_rfl) (by kernel_rfl) (by kernel_rfl) .disable (by kernel_rfl) w
theorem IE (w:World):(callFunc 286 #[]).run Tryz.prog w=.ok (.value (.tuple #[])) w:=run_call_mark0 Tryz.func286 (by kernel_rfl) (by kernel_rfl) (by kernel_rfl) .enable (by kernel_rfl) w
theorem LA (a:Addr) (w:World):(callFunc 287 #[.pointer (some a)]).run Tryz.prog w=.ok (.value (.tuple #[])) w:=run_call_marked Tryz.func287 (by kernel_rfl) (by kernel_rfl) (by kernel_rfl) .acquire (by kernel_rfl) a w
theorem Mt (a:Addr) (w:World):(callFunc 289 #[.pointer (some a)]).run Tryz.prog w=.ok (.value (.tuple #[])) w:=run_call_marked Tryz.func289 (by kernel_rfl) (by kernel_rfl) (by kernel_rfl) .releaseMerge (by kernel_rfl) a w
theorem NY (a:Addr) (x:Value) (u:FrameMode) (w:World) (hc:w.cell? a=some x) (hz:w.frozen? a=false):
  CallsD Tryz.prog 222 #[.pointer (some a),.bool true] u w fun e u' w'=>u'=u/\(e=.returned (.tuple #[])/\w'=w.drew.setCell a (.int .u32 1)):=by
 have AN:w.drew.cell? a=some x:=by go_simp
 have hz':w.drew.frozen? a=false:=by go_simp
 have hst:=run_call_store (P:=Tryz.prog) Tryz.func260 (by kernel_rfl) (by kernel_rfl) (by kernel_rfl) (by kernel_rfl) (k:=.u32) (y:=1) AN hz'
 go_enter_d Tryz.func222,Tryz.ntmps222
 go_wp2
 go_region_calls
 all_goals (go_end0;exact⟨rfl,rfl⟩)
theorem GR (a:Addr) (u:FrameMode) (w:World) (hc:w.cell? a=some (.int .i32 1)) (hz:w.frozen? a=false):
  CallsD Tryz.prog 221 #[.pointer (some a)] u w fun e u' w'=>u'=u/\(e=.returned (.tuple #[])/\w'=w.setCell a (.int .i32 0)):=by
 have hd:=C0;have he:=IE;have hr:=Mt;have aal:=run_call_add (P:=Tryz.prog) Tryz.func290 (by kernel_rfl) (by kernel_rfl) (by kernel_rfl) .i32 (by kernel_rfl) (y:= -1) (s:=0) hc hz (by simp[go_sem];rfl);have kL:=run_convert_to_unsafe (P:=Tryz.prog) (src:=312) (dst:=194) Tryz.underlying312 Tryz.underlying194 (by kernel_rfl) hc
 go_enter_d Tryz.func221,Tryz.ntmps221
 go_wp2
 go_end0
 go_wp2
 go_end0
 exact⟨rfl,rfl⟩
theorem SV (a:Addr) (w:World) (hc:w.cell? a=some (.int .i32 0)) (hz:w.frozen? a=false):
  Calls Tryz.prog 220 #[.pointer (some a)] w fun e w'=>e=.returned (.tuple #[])/\w'=w.setCell a (.int .i32 1):=by
 have hd:=C0;have he:=IE;have ha:=LA;have acK:=run_call_cas_hit (P:=Tryz.prog) Tryz.func285 (by kernel_rfl) (by kernel_rfl) (by kernel_rfl) .i32 (by kernel_rfl) (y:=1) hc hz;have AN:(w.setCell a (.int .i32 1)).cell? a=some (.int .i32 1):=World.cell?_setCell_same w a _ hc;have kL:=run_convert_to_unsafe (P:=Tryz.prog) (src:=312) (dst:=194) Tryz.underlying312 Tryz.underlying194 (by kernel_rfl) AN;go_enter Tryz.func220,Tryz.ntmps220
 go_wp2
 first |go_end0|(simp only[Exit.inBlock,Exit.then];refine bodyPost_ret (results_none rfl _ _ _) rfl ?_)|refine bodyPost_ret (results_none rfl _ _ _) rfl ?_
 go_wp2
 go_end0
 exact⟨rfl,rfl⟩
structure iI (w:World) (g:Nat):Prop where
 row:∃cs:Array Value,w.heap[g]? =some (.cells cs 265 (0,0))/\(∀k:Nat,k<256->(if k=9\/k=10\/k=13 then ∃A c,cs[k]? =some (.slice (some A) 0 c)else cs[k]? =some (.slice none 0 0)))/\
  ∃G c Ui,cs[256]? =some (.slice (some ⟨G,0,none⟩) 3 c)/\w.heap[G]? =some (.cells Ui 9 (0,0))/\Ui[0]? =some (.string ⟨#[13]⟩)/\Ui[1]? =some (.string ⟨#[10]⟩)/\Ui[2]? =some (.string ⟨#[9]⟩)
theorem iI.kept {w w':World} {g:Nat} (h:iI w g) (hk:∀(k:Nat) (cs:Array Value) (t:TypeId),w.heap[k]? =some (.cells cs t (0,0))->t=265\/t=9->w'.heap[k]? =w.heap[k]?):iI w' g:=by
 obtain⟨cs,h1,h2,G,c,Ui,h3,h4,h5⟩:=h.row;exact⟨cs,by rw[hk g cs _ h1 (.inl rfl)];exact h1,h2,G,c,Ui,h3,by rw[hk G Ui _ h4 (.inr rfl)];exact h4,h5⟩
def bM (w:World) (b:Nat) (d s e:Int) (rv ov:Value):Prop:=w.heap[b]? =some (.cells #[.int .u32 d,.int .i32 s,.int .u32 e,rv,ov] 155 (0,0))
theorem iI.set {w:World} {g b:Nat} {d s e:Int} {rv ov:Value} (h:iI w g) (hr:bM w b d s e rv ov) (k:Nat) (v:Value):iI (w.setCell ⟨b,k,none⟩ v) g:=
 h.kept fun j _ _ hj ht=>kB (fun e=>by
  have e':j=b:=e;rw[e',show w.heap[b]? =_ from hr]at hj;injection hj with hj
  injection hj with _ h2 _
  rcases ht with ht|ht<;>(rw[ht]at h2;exact absurd h2 (by decide))) v
theorem iI.below {w w':World} {g:Nat} (h:iI w g) (hb:Below w.heap.size w w'):iI w' g:=h.kept fun j _ _ hj _=>hb.block j (aZ hj)
theorem bM.set {w:World} {b:Nat} {d s e:Int} {rv ov:Value} (h:bM w b d s e rv ov) (k:Nat) (v:Value) {d' s':Int} {rv' ov':Value} (hc:(#[.int .u32 d,.int .i32 s,.int .u32 e,rv,ov]:Array Value).setIfInBounds k v= #[.int .u32 d',.int .i32 s',.int .u32 e,rv',ov']):bM (w.setCell ⟨b,k,none⟩ v) b d' s' e rv' ov':=jc h k v hc
def lQ (B b:Nat) (d s e:Int) (w:World) (w':World):Prop:=Below B w w'/\∃g,bM w' b d s e (.iface 266 (.pointer (some ⟨g,0,none⟩))) (.slice none 0 0)/\iI w' g
theorem Yo (B b:Nat) (e:Int) (rv ov:Value) (w:World) (rH:B<=b) (bz:bM w b 0 0 e rv ov)
  (cB:∀W,Below B w W->W=w.setCell ⟨b,1,none⟩ (.int .i32 1)->Calls Tryz.prog 105 #[.pointer (some ⟨b,0,none⟩)] W fun e' W'=>e'=.returned (.tuple #[])/\lQ B b 0 1 e W W'):
  Calls Tryz.prog 155 #[.pointer (some ⟨b,0,none⟩),.func (.func 105) #[.pointer (some ⟨b,0,none⟩)] #[]] w fun e' w'=>e'=.returned (.tuple #[])/\lQ B b 1 0 e w w':=by
 have c0:=rowAt bz 0 (.int .u32 0) rfl;have c1:=rowAt bz 1 (.int .i32 0) rfl;have f0:=bX bz 0;have f1:=bX bz 1;have hl:=run_call_load (P:=Tryz.prog) Tryz.func219 (by kernel_rfl) (by kernel_rfl) (by kernel_rfl) .u32 (by kernel_rfl) (w:=w.setCell ⟨b,1,none⟩ (.int .i32 1)) (a:=⟨b,0,none⟩) (x:=0) ((World.cell?_setCell_other _ ⟨b,1,none⟩ ⟨b,0,none⟩ _ (by simp)).trans c0);have Wk:∀(x:Bool) (w:World),(Op.unary .not (.bool x)).run Tryz.prog w=.ok (.bool (!x)) w:=fun _ _=>rfl;have av:Below B w (w.setCell ⟨b,1,none⟩ (.int .i32 1)):=(Below.refl B w).setCell (p:=⟨b,1,none⟩) rH _;have CB:=Ih (cB _ av rfl);have Hb1:=Ih av;clear cB av
 go_enter_defers Tryz.func155,Tryz.ntmps155
 go_wp2_with (first |(go_at_call 220;refine(SV ⟨b,1,none⟩ _ (by go_simp) (by go_simp)).mono ?_;rintro e w' ⟨rfl,rfl⟩)|(go_at_call 154;go_in)|(go_at_call 105;refine CB.out.mono ?_;rintro e2 w2 ⟨rfl,DV⟩))
 obtain⟨aC,g,iG,pF⟩:=DV;have d0:=rowAt iG 0 (.int .u32 0) rfl;have d1:=rowAt iG 1 (.int .i32 1) rfl;have z0:=bX iG 0;have z1:=bX iG 1;have pB:bM (w2.drew.setCell ⟨b,0,none⟩ (.int .u32 1)) b 1 1 e (.iface 266 (.pointer (some ⟨g,0,none⟩))) (.slice none 0 0):=bM.set (w:=w2.drew) iG 0 (.int .u32 1) (by simp);have nw:iI (w2.drew.setCell ⟨b,0,none⟩ (.int .u32 1)) g:=iI.set (w:=w2.drew) (pF.kept fun _ _ _ _ _=>rfl) iG 0 _;have AK:=bM.set pB 1 (.int .i32 0) (d':=1) (s':=0) (rv':=.iface 266 (.pointer (some ⟨g,0,none⟩))) (ov':=.slice none 0 0) (by simp);have Om:=iI.set nw pB 1 (.int .i32 0);refine leaves_cons (f:=222) (args:= #[.pointer (some ⟨b,0,none⟩),.bool true]) (by simp) (by simp[go_sem]) ?_;refine(NY ⟨b,0,none⟩ (.int .u32 0) .returning _ d0 z0).mono ?_;rintro e3 u3 w3 ⟨rfl,rfl,rfl⟩;refine leaves_cons (f:=221) (args:= #[.pointer (some ⟨b,1,none⟩)]) (by simp[settle]) (by simp[go_sem]) ?_;refine(GR ⟨b,1,none⟩ _ _ (rowAt pB 1 _ rfl) (bX pB 1)).mono ?_;rintro e3 u3 w3 ⟨rfl,rfl,rfl⟩
 have VU:Below B w ((w2.drew.setCell ⟨b,0,none⟩ (.int .u32 1)).setCell ⟨b,1,none⟩ (.int .i32 0)):=((Hb1.out.trans aC).drew.setCell (p:=⟨b,0,none⟩) rH _).setCell (p:=⟨b,1,none⟩) rH _;have HF:Hid (lQ B b 1 0 e w ((w2.drew.setCell ⟨b,0,none⟩ (.int .u32 1)).setCell ⟨b,1,none⟩ (.int .i32 0))):=⟨VU,g,AK,Om⟩;clear iG pB AK pF nw Om VU
 simp[Leaves,settle,results,Tryz.results155]
 exact HF.out
theorem doO (B b:Nat) (e:Int) (rv ov:Value) (w:World) (rH:B<=b) (bz:bM w b 0 0 e rv ov)
  (cB:∀W,Below B w W->W=w.setCell ⟨b,1,none⟩ (.int .i32 1)->Calls Tryz.prog 105 #[.pointer (some ⟨b,0,none⟩)] W fun e' W'=>e'=.returned (.tuple #[])/\lQ B b 0 1 e W W'):
  Calls Tryz.prog 104 #[.pointer (some ⟨b,0,none⟩),.func (.func 105) #[.pointer (some ⟨b,0,none⟩)] #[]] w fun e' w'=>e'=.returned (.tuple #[])/\lQ B b 1 0 e w w':=by
 have c0:=rowAt bz 0 (.int .u32 0) rfl;have hl:=run_call_load (P:=Tryz.prog) Tryz.func219 (by kernel_rfl) (by kernel_rfl) (by kernel_rfl) .u32 (by kernel_rfl) c0;have Wk:∀(x:Bool) (w:World),(Op.unary .not (.bool x)).run Tryz.prog w=.ok (.bool (!x)) w:=fun _ _=>rfl;have cS:=Ih (Yo B b e rv ov w rH bz cB);clear cB;go_enter Tryz.func104,Tryz.ntmps104
 go_wp2_with (first |(go_at_call 155;refine cS.out.mono ?_;rintro e w' ⟨rfl,DV⟩)|(go_at_call 154;go_in))
 go_end0
 exact⟨rfl,DV⟩
end Go.Proofs.YtibcmemcfjhgmaaGreatDoor
namespace Go.Proofs
open Go.Shelf
def Tryz.lays138_ren:Go.Shelf.Ren:=⟨fun|138=>136|195=>194|218=>196|143=>137|219=>168|217=>191|225=>227|224=>228|267=>229|266=>240|314=>264|n=>n,fun|9=>9|3=>3|4=>4|5=>5|0=>0|46=>124|146=>295|51=>123|n=>n,fun|1=>7|n=>n⟩
theorem Tryz.lays138:Go.Proofs.Lays.n138 Tryz.prog Tryz.lays138_ren:=by repeat' first |kernel_rfl|(intro w;rfl)|(intro w;kernel_rfl)|decide|constructor
open Go.RowKit Go.Lib in
theorem Tryz.strings_Count_one (s:ByteArray) (c:UInt8) (w:World):
 Calls Tryz.prog 136 #[.string s,.string ⟨#[c]⟩] w fun e w'=>e=.returned (.int .i64 (Lib.countByte s.data.toList c))/\w'=w:=Any.strings_Count_one Tryz.lays138 s c w
end Go.Proofs
namespace Go.Proofs.YtibcmemcfjhgmaaGreatDoor
open Go.RowKit
theorem zO (s:ByteArray) (c:UInt8) (w:World):Calls Tryz.prog 136 #[.string s,.string ⟨#[c]⟩] w fun e w'=>e=.returned (.int .i64 ((s.data.toList.count c:Nat):Int))/\w=w':=
 (Tryz.strings_Count_one s c w).mono fun _ _ ⟨h1,h2⟩=>⟨h1,h2.symm⟩
theorem nF (x:UInt64) (a b c:Nat) (ha:0<a/\a<64) (hb:0<b/\b<64) (hc:0<c/\c<64) (t:Bool) (w:World):Calls Tryz.prog 199 #[.int .u64 (N64 x),.int .i64 (a:Int),.int .i64 (b:Int),.int .i64 (c:Int),.bool t] w fun e w'=>e=.returned (.int .u64 (N64 (Lz.cm x (UInt64.ofNat a) (UInt64.ofNat b) (UInt64.ofNat c) t)))/\w=w':=by
 have ca:=Ih (pr x a ha.1 ha.2 w);have cb:=Ih (pr x b hb.1 hb.2 w);have cc:=Ih (pr x c hc.1 hc.2 w);have wa:IntKind.i64.wrap (-(a:Int))= -(a:Int):=IntWalk.i64_in _ (by omega);have wb:IntKind.i64.wrap (-(b:Int))= -(b:Int):=IntWalk.i64_in _ (by omega);have wc:IntKind.i64.wrap (-(c:Int))= -(c:Int):=IntWalk.i64_in _ (by omega);have c0:(0:Int)<=(c:Int):=by omega
 have c1:(c:Int)<=64:=by omega
 have e1:=Ed x c hc.2;have fx:=qO;have HV:Hid (Lz.cm x (UInt64.ofNat a) (UInt64.ofNat b) (UInt64.ofNat c) t=(Lz.aU x (UInt64.ofNat a) ^^^ Lz.aU x (UInt64.ofNat b)) ^^^ (if t then Lz.aU x (UInt64.ofNat c)else x>>>UInt64.ofNat c)):=rfl;rw[HV.out];clear HV ha hb hc;cases t
 ·go_enter Tryz.func199,Tryz.ntmps199
  go_wp2_with fail
  refine ca.out.mono ?_;rintro e w1 ⟨rfl,rfl⟩
  go_wp2_with fail
  refine cb.out.mono ?_;rintro e w1 ⟨rfl,rfl⟩
  go_wp2_with fail
  go_ret;exact⟨rfl,rfl⟩
 ·go_enter Tryz.func199,Tryz.ntmps199
  go_wp2_with fail
  refine cc.out.mono ?_;rintro e w1 ⟨rfl,rfl⟩
  go_wp2_with fail
  refine ca.out.mono ?_;rintro e w1 ⟨rfl,rfl⟩
  go_wp2_with fail
  refine cb.out.mono ?_;rintro e w1 ⟨rfl,rfl⟩
  go_wp2_with fail
  go_ret;exact⟨rfl,rfl⟩
theorem aa4 (x:UInt64):IntKind.u64.wrap (N64 x*256)=N64 (x<<<8):=Vo x 8 (by omega)
theorem FF (s:ByteArray) (hs:8<=s.size) (GD:s.size<=1073741824) (l:List UInt8) (i:Nat) (hl:s.data.toList=l.drop (8*i)) (w:World):Calls Tryz.prog 198 #[.string s] w fun e w'=>e=.returned (.int .u64 (N64 (Lz.gG l i 8)))/\w=w':=by
 have fo:=PL;have f8:=aa4;have f9:=abb
 have HL:Hid (∀k,k<s.size->s.data.toList[k]? =some (l.getD (8*i+k) 0)):=by
  show ∀k,_;intro k hk;have h1:k<s.data.toList.length:=by rw[ac];exact hk
  have h2:(l.drop (8*i))[k]? =s.data.toList[k]? :=by rw[hl]
  rw[List.getElem?_drop]at h2;rw[List.getD_eq_getElem?_getD,h2,List.getElem?_eq_getElem h1];rfl
 clear hl;go_enter Tryz.func198,Tryz.ntmps198
 go_wp2_with fail
 go_loop [2,3,4] (fun v _ k=>∃j:Nat,k=.int .i64 (j:Int)/\j<=8/\v=.int .u64 (N64 (Lz.gG l i j))) (fun _ _ k=>8-(intOf k).toNat)
 case atStart=>exact⟨0,rfl,by omega,rfl⟩
 case round=>
  obtain⟨j,rfl,hj,rfl⟩:=hrel;by_cases aL:j<8
  ·have aK:(j:Int)<8:=by omega
   have V7:j<s.size:=by omega
   have h1:=HL.out j V7;obtain⟨c,hc⟩:∃c,c=s[j]:=⟨_,rfl⟩;have kL:(s[j].toNat:Int)=N64 c.toUInt64:=by rw[hc];rfl
   have HW:Hid (Lz.gG l i (j+1)=(Lz.gG l i j<<<8)||| c.toUInt64):=by
    show _=_;rw[Lz.gG,hc];rw[aB V7]at h1;rw[Option.some.inj h1]
   clear h1 hc
   go_wp2_with fail
   go_round
   case rel=>exact⟨j+1,by go_num,by omega,by rw[HW.out]⟩
   case measure=>simp[intOf];omega
  ·obtain rfl:j=8:=by omega
   go_wp2_with fail
   go_ret;exact⟨rfl,rfl⟩
theorem MK (m:Nat):Builtin.zeroCells #[Value.int .u8 0] m=(u8s (List.replicate m 0)).toArray:=by
 apply Array.ext'
 unfold Builtin.zeroCells u8s
 simp[Nat.mod_one]
 rw[List.eq_replicate_iff];constructor
 ·simp
 ·intro b hb
  simp at hb
  obtain⟨_,_,rfl⟩:=hb;rfl
def ed (w:World) (base:Nat) (v:Value) (n:Nat) (l:List UInt8):Prop:=
 ∃g cap dx fz,v=.slice (some ⟨g,0,none⟩) n cap/\base<=g/\w.heap[g]? =some (.cells dx 5 fz)/\(fz.2<=n\/cap<=fz.1)/\n<=cap/\cap<=maxLen/\dx.size=cap/\dx.toList.take n=u8s l/\l.length=n
theorem ed.kept {w w':World} {base:Nat} {v:Value} {n:Nat} {l:List UInt8} (h:ed w base v n l) (hb:Below w.heap.size w w'):ed w' base v n l:=by
 obtain⟨g,cap,dx,fz,h1,h2,h3,r⟩:=h;exact⟨g,cap,dx,fz,h1,h2,by rw[hb.block g (aZ h3)];exact h3,r⟩
theorem ed.len {w:World} {base:Nat} {v:Value} {n:Nat} {l:List UInt8} (h:ed w base v n l):∃a c,v=.slice a n c:=by
 obtain⟨g,cap,dx,fz,h1,_⟩:=h;exact⟨_,_,h1⟩
theorem X9 (g o i:Nat):(⟨g,o,none⟩:Addr).add i=⟨g,o+i,none⟩:=by unfold Addr.add;split<;>simp_all
theorem ed.cells {w:World} {base g:Nat} {v:Value} {n:Nat} {l:List UInt8} (h:ed w base v n l) (hg:v.ownBlock=some g) (j:Nat) (u:Value) (hu:(u8s l)[j]? =some u):w.cell? ((⟨g,0,none⟩:Addr).add j)=some u:=by
 obtain⟨g',cap,dx,fz,rfl,_,hgg,_,_,_,_,wk,_⟩:=h
 simp[Value.ownBlock]at hg
 subst hg;rw[bD,cell_of_row w g' j dx _ fz hgg];rw[<-wk,List.getElem?_take]at hu;split at hu
 ·simpa using hu
 ·cases hu
theorem lT (g o:Nat) (t:TypeId) (fz:Nat×Nat):∀(vs:List Value) (i:Nat) (dx:Array Value) (w:World),w.heap[g]? =some (.cells dx t fz)->(fz.2<=o+i\/dx.size<=fz.1)->o+i+vs.length<=dx.size->(∀v∈vs,v.oneCell'=true)->
  (storeCells ⟨g,o,none⟩ vs i).run Tryz.prog w=.ok () (w.setRow g (dx.toList.take (o+i)++vs++dx.toList.drop (o+i+vs.length)).toArray)
 | [],i,dx,w,hg,_,_,_=>by
   simp only[storeCells,List.append_nil,List.length_nil,Nat.add_zero,List.take_append_drop,Array.toArray_toList];rw[setRow_self w g dx t fz hg];rfl
 | v::rest,i,dx,w,hg,DR,hl,h1=>by
   have hi:o+i<dx.size:=by simp at hl;omega
   have aal:(⟨g,o,none⟩:Addr).add i=⟨g,o+i,none⟩:=X9 _ _ _;have bH:w.cell? ⟨g,o+i,none⟩=some dx[o+i]:=by simp[World.cell?,hg,hi]
   have ab7:w.frozen? ⟨g,o+i,none⟩=false:=by
    obtain⟨lo,Ln⟩:=fz;simp only[World.frozen?,hg,Bool.and_eq_false_iff,decide_eq_false_iff_not];simp only at DR;omega
   have hst:(store ((⟨g,o,none⟩:Addr).add i) v).run Tryz.prog w=.ok () (w.setRow g (dx.setIfInBounds (o+i) v)):=by
    rw[aal,run_store Tryz.prog w _ v _ (h1 v (by simp)),bH]
    simp[ab7,setCell_eq_setRow w g (o+i) dx t fz v hg]
   have ih:=lT g o t fz rest (i+1) (dx.setIfInBounds (o+i) v) (w.setRow g (dx.setIfInBounds (o+i) v)) (setRow_heap w g dx _ t _ hg) (by rw[Array.size_setIfInBounds];omega) (by simp at hl⊢;omega) (fun x hx=>h1 x (by simp[hx]));simp only[storeCells,Sem.run_bind,hst,Result.andThen_ok,ih,setRow_setRow];congr 3;have e:=list_seg_step dx.toList (o+i) v rest (by simp at hl⊢;omega);simpa [Array.toList_setIfInBounds,Nat.add_assoc]using e
theorem G9 (l:List UInt8):∀u∈u8s l,u.oneCell'=true:=by
 intro u hu;unfold u8s at hu;obtain⟨_,_,rfl⟩:=List.mem_map.1 hu;rfl
theorem fi (l:List UInt8):(u8s l).length=l.length:=by simp[u8s]
theorem ed.room {w:World} {base g n cap:Nat} {dx:Array Value} {fz:Nat×Nat} {l news:List UInt8} (mu:base<=g) (hg:w.heap[g]? =some (.cells dx 5 fz)) (DR:fz.2<=n\/cap<=fz.1) (tj:cap<=maxLen) (iF:dx.size=cap) (wk:dx.toList.take n=u8s l) (jf:l.length=n) (lm:n+news.length<=cap):
  ed (w.setRow g (dx.toList.take n++u8s news++dx.toList.drop (n+(u8s news).length)).toArray) base (.slice (some ⟨g,0,none⟩) (n+news.length) cap) (n+news.length) (l++news)/\w.grownBy (w.setRow g (dx.toList.take n++u8s news++dx.toList.drop (n+(u8s news).length)).toArray) (some g):=by
 refine⟨⟨g,cap,_,fz,rfl,mu,setRow_heap w g dx _ _ _ hg,by omega,lm,tj,?_,?_,by rw[List.length_append,jf]⟩,⟨rfl,rfl,rfl,by simp,fun k _ hk=>setRow_other w g k _ (fun e=>hk (by rw[e]))⟩⟩
 ·have:=fi news
  simp;omega
 ·rw[<-zj];simp only;rw[wk,List.take_left' (by rw[List.length_append,fi,fi,jf])]
theorem ed.grows {w:World} {base n cap:Nat} {l news:List UInt8} (fk:base<=w.heap.size) (jf:l.length=n) (KQ:n+news.length<=1099511627776) (row:Option Nat):
  ed (w.drew.alloc (.cells ((u8s l).toArray++(u8s news).toArray++Builtin.zeroCells (Value.cells (Value.int .u8 0)) (grownCap w (n+news.length) cap 5-(n+news.length))) 5)) base (.slice (some ⟨w.heap.size,0,none⟩) (n+news.length) (grownCap w (n+news.length) cap 5)) (n+news.length) (l++news)/\w.grownBy (w.drew.alloc (.cells ((u8s l).toArray++(u8s news).toArray++Builtin.zeroCells (Value.cells (Value.int .u8 0)) (grownCap w (n+news.length) cap 5-(n+news.length))) 5)) row:=by
 have AS:=grownCap_ge w (n+news.length) cap 5;refine⟨⟨w.heap.size,_,_,(0,0),rfl,fk,heap_alloc_new w.drew _,Or.inl (Nat.zero_le _),AS,grownCap_le_maxLen w (n+news.length) cap 5 (by unfold maxLen;omega),?_,?_,by rw[List.length_append,jf]⟩,⟨rfl,rfl,rfl,by simp,fun k hk _=>heap_alloc_old w.drew _ hk⟩⟩
 ·rw[Array.size_append,Array.size_append,size_zeroCells,List.size_toArray,List.size_toArray,fi,fi];show _+_+_*1=_;omega
 ·rw[<-zj];simp only[Array.toList_append,List.append_assoc];rw[<-List.append_assoc,List.take_left' (by rw[List.length_append,fi,fi,jf])]
theorem qW (base:Nat) (ty:TypeId) (v:Value) (n m:Nat) (l:List UInt8) (w:World) (ai:ed w base v n l) (KQ:n+m<=1099511627776) (fk:base<=w.heap.size):
  ∃v' w',(Builtin.append_ #[93,3] ty #[v,.int .i64 (m:Int)]).run Tryz.prog w=.ok v' w'/\ed w' base v' (n+m) (l++List.replicate m 0)/\w.grownBy w' v.ownBlock:=by
 obtain⟨i,hi,hz,d9,eo⟩:=info_parts Tryz.infoU8;have hw:IntKind.i64.wrap (m:Int)=m:=by rw[IntKind.wrap_i64];omega
 have aaG:¬((m:Int)<0):=by omega
 have ZL:¬(281474976710656<(m:Int)):=by omega
 have KX:Builtin.zeroCells (Value.cells (Value.int .u8 0)) m=(u8s (List.replicate m 0)).toArray:=MK m;have ws:(List.replicate m (0:UInt8)).length=m:=List.length_replicate;obtain⟨g,cap,dx,fz,rfl,mu,hg,DR,Uf,tj,iF,wk,jf⟩:=id ai;by_cases hm:m=0
 ·subst hm;refine⟨_,w,?_,by simpa using ai,⟨rfl,rfl,rfl,Nat.le_refl _,fun _ _ _=>rfl⟩⟩
  simp[Builtin.append_,run_underlying Tryz.underlying93,run_underlying Tryz.underlying3,sizeOf,typeInfo,hi,eo,asInt,asIntOf,Uf,IntKind.wrap_i64,Addr.add_lit,storeCells]
 ·by_cases lm:n+m<=cap
  ·have hst:=lT g n 5 fz (u8s (List.replicate m 0)) 0 dx w hg (by omega) (by rw[fi,ws];omega) (G9 _);simp only[Nat.add_zero]at hst;have hO:=ed.room (news:=List.replicate m 0) mu hg DR tj iF wk jf (by rw[ws];exact lm);rw[ws]at hO;refine⟨_,_,?_,hO.1,hO.2⟩
   simp[Builtin.append_,run_underlying Tryz.underlying93,run_underlying Tryz.underlying3,sizeOf,typeInfo,zeroValue,hi,hz,d9,eo,asInt,asIntOf,lm,hw,aaG,ZL,hm,KX,Addr.add_lit,hst]
  ·have bH:∀j u,(u8s l)[j]? =some u->w.drew.cell? ((⟨g,0,none⟩:Addr).add j)=some u:=fun j u hu=>ai.cells (g:=g) rfl j u hu;have hfo:=run_firstCells_some (P:=Tryz.prog) w.drew 1 n ⟨g,0,none⟩ n cap (u8s l) (by rw[fi,jf,Nat.mul_one]) bH;have ab3:¬(9223372036854775807<((n:Int)+(m:Int))):=by omega
   have abs:¬(281474976710656<Builtin.nextslicecap (n+m) cap):=by
    have:=growslice_fits (need:=n+m) (old:=cap) (bytes:=1) (by omega) (by omega);omega
   have hO:=ed.grows (base:=base) (cap:=cap) (w:=w) (news:=List.replicate m 0) fk jf (by rw[ws];exact KQ) (some g);rw[ws]at hO;refine⟨_,_,?_,hO.1,hO.2⟩
   simp[Builtin.append_,run_underlying Tryz.underlying93,run_underlying Tryz.underlying3,sizeOf,typeInfo,zeroValue,hi,hz,d9,eo,asInt,asIntOf,lm,hw,aaG,ZL,hm,KX,ab3,abs,Question.forced,hfo,newRow,grownCap]
   have e:(u8s l++u8s (List.replicate m 0)).toArray=(u8s l).toArray++(u8s (List.replicate m 0)).toArray:=by simp
   rw[e,Array.append_assoc]
theorem ri (base:Nat) (ty:TypeId) (v:Value) (n m c:Nat) (l news:List UInt8) (ad:Addr) (w:World) (ai:ed w base v n l) (hm:news.length=m) (IQ:∀j u,(u8s news)[j]? =some u->w.cell? (ad.add j)=some u) (KQ:n+m<=1099511627776) (fk:base<=w.heap.size):
  ∃v' w',(Builtin.append_ #[93,93] ty #[v,.slice (some ad) m c]).run Tryz.prog w=.ok v' w'/\ed w' base v' (n+m) (l++news)/\w.grownBy w' v.ownBlock:=by
 obtain⟨i,hi,hz,d9,eo⟩:=info_parts Tryz.infoU8;subst hm;obtain⟨g,cap,dx,fz,rfl,mu,hg,DR,Uf,tj,iF,wk,jf⟩:=id ai;by_cases lm:n+news.length<=cap
 ·have hst:=lT g n 5 fz (u8s news) 0 dx w hg (by omega) (by rw[fi];omega) (G9 _);simp only[Nat.add_zero]at hst;have hf:=run_firstCells_some (P:=Tryz.prog) w 1 news.length ad news.length c (u8s news) (by rw[fi,Nat.mul_one]) IQ;have hO:=ed.room (news:=news) mu hg DR tj iF wk jf lm;refine⟨_,_,?_,hO.1,hO.2⟩
  simp[Builtin.append_,run_underlying Tryz.underlying93,sizeOf,typeInfo,hi,d9,Builtin.lenOf,lm,hf,Addr.add_lit,hst]
 ·have hr:=run_append_grow (P:=Tryz.prog) w 93 ty 5 i (.int .u8 0) Tryz.underlying93 hi hz ⟨g,0,none⟩ n cap (u8s l) (by rw[fi,jf,d9,Nat.mul_one]) (fun j u hu=>ai.cells (g:=g) rfl j u hu) ad news.length c (u8s news) (by rw[fi,d9,Nat.mul_one]) IQ (by omega) (by omega) (growslice_fits (by omega) (by rw[eo];omega));have hO:=ed.grows (base:=base) (cap:=cap) (w:=w) (news:=news) fk jf KQ (some g);exact⟨_,_,hr,hO.1,hO.2⟩
theorem jl {ops:Array Oper} {rest:List Oper} {o:Oper} {a:Act} {Q:Exit->Act->World->Prop} {w:World} (Le:o.guard=none) (s x:Operand)
  (ho:o.op=.call {callee:=.builtin .append,args:= #[s,x],argTypes:= #[93,3]}) (base:Nat) (v:Value) (n m n':Nat) (l l':List UInt8) (hs:a.eval s=v) (hx:a.eval x=.int .i64 (m:Int)) (ai:ed w base v n l) (hn:n+m=n') (hl:l++List.replicate m 0=l') (KQ:n+m<=1099511627776) (fk:base<=w.heap.size)
  (h:∀v' w',ed w' base v' n' l'->w.grownBy w' v.ownBlock->wpList Tryz.prog ops Q rest (a.put o.dst v') w'):wpList Tryz.prog ops Q (o::rest) a w:=by
 subst hn;subst hl;obtain⟨v',w',hr,h1,h2⟩:=qW base o.type v n m l w ai KQ fk;exact Lib.wpList_append_run w Le s x 93 3 ho v _ hs hx v' w' hr (h v' w' h1 h2)
theorem di {ops:Array Oper} {rest:List Oper} {o:Oper} {a:Act} {Q:Exit->Act->World->Prop} {w:World} (Le:o.guard=none) (s x:Operand)
  (ho:o.op=.call {callee:=.builtin .append,args:= #[s,x],argTypes:= #[93,93]}) (base:Nat) (v:Value) (n m c n':Nat) (l news l':List UInt8) (ad:Addr) (hs:a.eval s=v) (hx:a.eval x=.slice (some ad) m c) (ai:ed w base v n l) (hn:n+m=n') (hl:l++news=l') (hm:news.length=m) (IQ:∀j u,(u8s news)[j]? =some u->w.cell? (ad.add j)=some u) (KQ:n+m<=1099511627776) (fk:base<=w.heap.size)
  (h:∀v' w',ed w' base v' n' l'->w.grownBy w' v.ownBlock->wpList Tryz.prog ops Q rest (a.put o.dst v') w'):wpList Tryz.prog ops Q (o::rest) a w:=by
 subst hn;subst hl;obtain⟨v',w',hr,h1,h2⟩:=ri base o.type v n m c l news ad w ai hm IQ KQ fk;exact Lib.wpList_append_run w Le s x 93 93 ho v _ hs hx v' w' hr (h v' w' h1 h2)
theorem ed.length {w:World} {base:Nat} {v:Value} {n:Nat} {l:List UInt8} (h:ed w base v n l):l.length=n:=by
 obtain⟨_,_,_,_,_,_,_,_,_,_,_,_,jf⟩:=h;exact jf
theorem ed.form {w:World} {base:Nat} {v:Value} {n:Nat} {l:List UInt8} (h:ed w base v n l):∃g c,v=.slice (some ⟨g,0,none⟩) n c/\base<=g/\n<=c:=by
 obtain⟨g,cap,_,_,h1,h2,_,_,h3,_⟩:=h;exact⟨g,cap,h1,h2,h3⟩
theorem ed.setRow {w:World} {base:Nat} {v:Value} {n:Nat} {l:List UInt8} (h:ed w base v n l) (H:Nat) (cs:Array Value) (hH:H<base):ed (w.setRow H cs) base v n l:=by
 obtain⟨g,cap,dx,fz,h1,h2,h3,r⟩:=h;exact⟨g,cap,dx,fz,h1,h2,by rw[setRow_other _ _ _ _ (by omega)];exact h3,r⟩
theorem ed.below {w w':World} {base:Nat} {v:Value} {n:Nat} {l:List UInt8} {B:Nat} {a:World} (h:ed w base v n l) (hg:w.grownBy w' v.ownBlock) (hb:Below B a w) (hB:B<=base) (hs:B<=w.heap.size):Below B a w':=
 hb.grown hg hs (fun k hk=>by
  obtain⟨g,_,_,_,rfl,h2,_⟩:=h
  simp[Value.ownBlock]at hk
  omega)
theorem yc (s:ByteArray) (w:World) (hs:s.size<=1099511627776):ed (w.drew.alloc (.cells (bytesRow s (grownCap w s.size 0 5)) 5 ((bytesRow s (grownCap w s.size 0 5)).size,(bytesRow s (grownCap w s.size 0 5)).size+1))) w.heap.size (.slice (some ⟨w.heap.size,0,none⟩) s.size (grownCap w s.size 0 5)) s.size s.data.toList:=by
 have AS:=grownCap_ge w s.size 0 5
 have hz:(bytesRow s (grownCap w s.size 0 5)).size=grownCap w s.size 0 5:=by
  unfold bytesRow;have:s.data.size=s.size:=rfl;simp only[Array.size_append,Array.size_map,Array.size_replicate];omega
 refine⟨w.heap.size,_,_,_,rfl,Nat.le_refl _,heap_alloc_new w.drew _,Or.inr (by rw[hz];exact Nat.le_refl _),AS,grownCap_le_maxLen w s.size 0 5 (by unfold maxLen;omega),hz,?_,ac s⟩;unfold bytesRow u8s;rw[Array.toList_append,Array.toList_map,List.take_left' (by rw[List.length_map,ac])]
theorem ed.text {w:World} {base g cap n:Nat} {l:List UInt8} (h:ed w base (.slice (some ⟨g,0,none⟩) n cap) n l) (KZ k c:Nat) (hk:KZ+k<=n):(convert 93 9 (.slice (some ⟨g,KZ,none⟩) k c)).run Tryz.prog w=.ok (.string ⟨((l.drop KZ).take k).toArray⟩) w:=by
 obtain⟨_,_,_,_,e,_,_,_,_,_,_,_,jf⟩:=id h;have hlk:((l.drop KZ).take k).length=k:=by rw[List.length_take,List.length_drop];omega
 have:=run_convert_bytes_back (P:=Tryz.prog) w 93 9 5 ⟨g,KZ,none⟩ c ((l.drop KZ).take k) Tryz.underlying93 Tryz.underlying5 Tryz.underlying9 (by
  intro j hj
  have hu:(u8s l)[KZ+j]? =some (.int .u8 ((((l.drop KZ).take k)[j]).toNat:Int)):=by
   unfold u8s;rw[List.getElem?_map,List.getElem?_eq_getElem (by omega)]
   simp
  have:=h.cells (g:=g) rfl (KZ+j) _ hu;rw[bD]at this
  rwa [X9])
 rwa [hlk]at this
attribute [local go_sem ↓] Go.wp_at_zero Go.wp_at_succ
theorem Yd (q r:Nat):2^(16*q+r)=2^r*65536^q:=by rw[Nat.pow_add,Nat.pow_mul,Nat.mul_comm]
structure lX (m d n:Nat) (xl:List Nat):Prop where
 len:xl.length=5
 digs:Lz.jO xl
 low:Lz.bO xl%2^n=0
theorem lX.room {m d k:Nat} {xl:List Nat} (h:lX m d (k+1) xl):xl.getD (k / 16) 0+2^(k%16)<65536:=by
 have hk:=h.low;rw[show k+1=16*(k / 16)+k%16+1 by omega]at hk;have h1:=Lz.El (Nat.mod_lt k (by omega)) hk
 rwa [Lz.vq xl h.digs]at h1
theorem lX.val {m d k:Nat} {xl:List Nat} (h:lX m d (k+1) xl) (hk:k<69):Lz.bO (xl.set (k / 16) (xl.getD (k / 16) 0+2^(k%16)))=Lz.bO xl+2^k:=by
 have h1:=Lz.mY xl (k / 16) (xl.getD (k / 16) 0+2^(k%16)) (by rw[h.len];omega);rw[Nat.add_mul,<-Yd,show 16*(k / 16)+k%16=k by omega]at h1;omega
theorem Bn {v k:Nat} (h:v%2^(k+1)=0):v%2^k=0/\(v+2^k)%2^k=0:=by
 obtain⟨c,rfl⟩:=Nat.dvd_of_mod_eq_zero h;have:2^(k+1)*c=2^k*(2*c):=by rw[Nat.pow_succ,Nat.mul_assoc]
 rw[this];exact⟨Nat.mul_mod_right _ _,by rw[Nat.add_mod_right];exact Nat.mul_mod_right _ _⟩
theorem lX.yes {m d k:Nat} {xl:List Nat} (h:lX m d (k+1) xl) (hk:k<69):lX m d k (xl.set (k / 16) (xl.getD (k / 16) 0+2^(k%16))):=
 ⟨by rw[List.length_set,h.len],h.digs.set h.room,by rw[h.val hk];exact(Bn h.low).2⟩
theorem lX.no {m d k:Nat} {xl:List Nat} (h:lX m d (k+1) xl):lX m d k xl:=⟨h.len,h.digs,(Bn h.low).1⟩
theorem Nu (xl:List Nat) (q d:Nat):(xl.set q d).set q (xl.getD q 0)=xl:=by
 rw[List.set_set]
 apply List.ext_getElem?
 intro j;rw[List.getElem?_set];split
 ·rename_i e;subst e;split
  ·rename_i hl;rw[List.getD_eq_getElem?_getD,List.getElem?_eq_getElem hl];rfl
  ·rename_i hl;rw[List.getElem?_eq_none (by omega)]
 ·rfl
def mz (p d:Nat):List Nat:=(List.replicate (4*d+1) 0).set (4*d) p
theorem LM (p d:Nat):Lz.bO (mz p d)=p*2^(64*d):=by
 have h:=Lz.mY (List.replicate (4*d+1) 0) (4*d) p (by simp);rw[Lz.j5,List.getD_eq_getElem?_getD,List.getElem?_replicate]at h;split at h
 ·unfold mz;have:(65536:Nat)^(4*d)=2^(64*d):=by rw[show(65536:Nat)=2^16 from rfl,<-Nat.pow_mul,show 16*(4*d)=64*d by omega]
  rw[this]at h
  simp at h
  exact h
 ·omega
theorem KD (p d:Nat) (hp:p<65536):Lz.jO (mz p d):=by
 unfold mz;refine Lz.jO.set (fun x hx=>?_) hp;rw[List.eq_of_mem_replicate hx];omega
theorem vo (p d:Nat) (hp:p<65536) (hd:d=2\/d=3) (w:World):Calls Tryz.prog 111 #[.int .i64 (p:Int),.int .i64 (d:Int)] w fun e w'=>e=.returned (.int .u64 ((Lz.lZ p d:Nat):Int))/\Below w.heap.size w w':=by
 obtain⟨n4,TP⟩:∃n4,n4=4*d:=⟨_,rfl⟩;have f1:IntKind.i64.wrap (4*(d:Int))=(n4:Int):=by rw[IntWalk.i64_in _ (by omega)];omega
 obtain⟨n5,XO⟩:∃n5,n5=n4+1:=⟨_,rfl⟩;have f2:IntKind.i64.wrap ((n4:Int)+1)=(n5:Int):=by rw[IntWalk.i64_in _ (by omega)];omega
 have f3:(0:Int)<=(n4:Int):=by omega
 have f4:(n4:Int)<(n5:Int):=by omega
 have OC:=Mx n5 (by omega) w;obtain⟨W1,wE⟩:∃W1,W1=w.alloc (.cells (Array.replicate n5 (.int .i64 0)) 3):=⟨_,rfl⟩;have av:Below w.heap.size w W1:=by rw[wE];exact(Below.refl _ w).alloc (Nat.le_refl _) _
 obtain⟨GM,hGM⟩:∃GM,GM=w.heap.size:=⟨_,rfl⟩
 have i9:eh W1 GM (List.replicate n5 0):=by
  show _=_;rw[wE,hGM,an];unfold tg;rw[List.map_replicate];simp
 rw[<-wE,<-hGM]at OC
 have iE:W1.cell? ⟨GM,n4,none⟩=some (.int .i64 0):=by
  have:=rowAt i9 n4 _ (lD (by simp;omega));rw[List.getD_eq_getElem?_getD,List.getElem?_replicate]at this;split at this
  ·exact this
  ·omega
 have jC:W1.frozen? ⟨GM,n4,none⟩=false:=frozen_of_row _ _ _ _ _ i9;obtain⟨W2,lp⟩:∃W2,W2=W1.setCell ⟨GM,n4,none⟩ (.int .i64 (p:Int)):=⟨_,rfl⟩
 have iG:eh W2 GM (mz p d):=by
  rw[lp];have:=i9.set n4 p;unfold mz;rw[<-TP,<-XO];exact this
 have aE:Below w.heap.size w W2:=by rw[lp];exact gz av (by omega)
 have aaH:=Mx 5 (by omega) W2;obtain⟨W3,Pv⟩:∃W3,W3=W2.alloc (.cells (Array.replicate 5 (.int .i64 0)) 3):=⟨_,rfl⟩;obtain⟨GX,hGX⟩:∃GX,GX=W2.heap.size:=⟨_,rfl⟩;have Wl:Below W2.heap.size W2 W3:=by rw[Pv];exact(Below.refl _ W2).alloc (Nat.le_refl _) _
 have bj:Below w.heap.size w W3:=ae aE Wl;have pB:eh W3 GM (mz p d):=iG.below Wl
 have lq:eh W3 GX (List.replicate 5 0):=by
  show _=_;rw[Pv,hGX,an];unfold tg;rw[List.map_replicate];rfl
 rw[<-Pv,<-hGX,show((5:Nat):Int)=5 from rfl,lp]at aaH;have ada:GM<GX:=by rw[hGX];exact aZ iG
 have acW:w.heap.size<=GM:=by omega
 obtain⟨M,hM⟩:∃M,M=p*2^(64*d):=⟨_,rfl⟩;have nX:lX M d 69 (List.replicate 5 0):=⟨rfl,fun x hx=>by rw[List.eq_of_mem_replicate hx];omega,by rw[Lz.j5]⟩;obtain⟨Z,hZ⟩:∃Z,Z=Lz.oX M d 69 0:=⟨_,rfl⟩;have HP:Hid (Lz.lZ p d=Z%2^64):=by show _=_;unfold Lz.lZ;rw[<-hM,<-hZ]
 have HZ0:Hid (Lz.oX M d 69 (Lz.bO (List.replicate 5 0))=Z):=by show _=_;rw[Lz.j5,hZ]
 have HMv:Hid (Lz.bO (mz p d)=M):=by show _=_;rw[LM,hM]
 have HMd:=Ih (KD p d hp);have ws:(mz p d).length=n5:=by unfold mz;simp;omega
 have HML:=Ih ws;have HR0:=Ih nX;have HD:=Ih hd;have T7:=Ih TP;generalize mz p d=ml at iG pB HMv HMd HML ws;clear hZ hM nX ws i9 iG av aE Wl hp;have H1:=Ih wE;have H2:=Ih lp;have H3:=Ih Pv;have HGM:=Ih hGM;have HGX:=Ih hGX;have HN5:=Ih XO;clear wE lp Pv hGM hGX TP hd XO;go_enter Tryz.func111,Tryz.ntmps111
 go_upto_region 4 with fail
 clear OC aaH iE jC f1 f2
 go_wp2_with fail
 go_loopw [7,8] (fun i _ wr=>∃(n:Nat) (xl:List Nat),i=.int .i64 ((n:Int)-1)/\n<=69/\Hid (lX M d n xl)/\Hid (Lz.oX M d n (Lz.bO xl)=Z)/\eh wr GX xl/\eh wr GM ml/\Below w.heap.size w wr) (fun i _ _=>(intOf i+1).toNat)
 case atStart=>exact⟨69,_,rfl,Nat.le_refl _,HR0,HZ0,lq,pB,bj⟩
 case round=>
  clear HR0 HZ0 lq pB bj;obtain⟨n,xl,rfl,hn,hR,hZ,hx,hm,aC⟩:=hrel;cases n with
  | zero=>
    have e0:((0:Nat):Int)-1= -1:=rfl;rw[e0];clear e0;have aO:=hR.out.len
    match xl,aO with
    | [x0,x1,x2,x3,x4],_=>
      have k0:wr.cell? ⟨GX,0,none⟩=some (.int .i64 (x0:Int)):=rowAt hx 0 _ rfl;have k1:wr.cell? ⟨GX,1,none⟩=some (.int .i64 (x1:Int)):=rowAt hx 1 _ rfl;have k2:wr.cell? ⟨GX,2,none⟩=some (.int .i64 (x2:Int)):=rowAt hx 2 _ rfl;have k3:wr.cell? ⟨GX,3,none⟩=some (.int .i64 (x3:Int)):=rowAt hx 3 _ rfl;have d0:=hR.out.digs x0 (by simp);have d1:=hR.out.digs x1 (by simp);have d2:=hR.out.digs x2 (by simp);have d3:=hR.out.digs x3 (by simp);have c0:IntKind.u64.wrap (x0:Int)=(x0:Int):=IntWalk.u64_in _ (by omega);have c1:IntKind.u64.wrap (x1:Int)=(x1:Int):=IntWalk.u64_in _ (by omega);have c2:IntKind.u64.wrap (x2:Int)=(x2:Int):=IntWalk.u64_in _ (by omega);have c3:IntKind.u64.wrap (x3:Int)=(x3:Int):=IntWalk.u64_in _ (by omega)
      go_wp2_with fail
      go_quiet (fail)
      go_wp2_with fail
      go_ret;refine⟨?_,below_drewN aC _⟩
      have e:((Lz.lZ p d:Nat):Int)=(x3:Int)*281474976710656+(x2:Int)*4294967296+(x1:Int)*65536+(x0:Int):=by
       have h1:=hZ.out;simp only[Lz.oX,Lz.bO]at h1;rw[HP.out,<-h1];omega
      rw[e];rfl
  | succ k=>
    have e1:((k+1:Nat):Int)-1=(k:Int):=by omega
    rw[e1];have AI:(0:Int)<=(k:Int):=by omega
    obtain⟨q,hq⟩:∃q,q=k / 16:=⟨_,rfl⟩;obtain⟨r,hr⟩:∃r,r=k%16:=⟨_,rfl⟩;have g1:Int.tdiv (k:Int) 16=(q:Int):=by rw[Int.tdiv_eq_ediv_of_nonneg (by omega)];omega
    have g2:Int.tmod (k:Int) 16=(r:Int):=by rw[Int.tmod_eq_emod_of_nonneg (by omega)];omega
    have g1':(k:Int) / 16=(q:Int):=by omega
    have g2':(k:Int)%16=(r:Int):=by omega
    have g3:IntKind.i64.wrap (q:Int)=(q:Int):=IntWalk.i64_in _ (by omega);have g4:IntKind.i64.wrap (r:Int)=(r:Int):=IntWalk.i64_in _ (by omega);have Gi:(0:Int)<=(q:Int):=by omega
    have hq5:(q:Int)<5:=by omega
    have lm:=hR.out.room;rw[<-hq,<-hr]at lm;have hc:wr.cell? ⟨GX,q,none⟩=some (.int .i64 ((xl.getD q 0:Nat):Int)):=rowAt hx _ _ (lD (by rw[hR.out.len];omega));have hf:wr.frozen? ⟨GX,q,none⟩=false:=frozen_of_row _ _ _ _ _ hx;obtain⟨y,hy⟩:∃y,y=xl.getD q 0:=⟨_,rfl⟩;obtain⟨e,he⟩:∃e,e=2^r:=⟨_,rfl⟩;obtain⟨s,hs⟩:∃s,s=y+e:=⟨_,rfl⟩;have g5:(2:Int)^r=(e:Int):=by rw[he];exact(Int.natCast_pow 2 r).symm
    rw[<-hy]at hc lm;rw[<-he]at lm;have g6:IntKind.i64.wrap (e:Int)=(e:Int):=IntWalk.i64_in _ (by omega);have g7:IntKind.i64.wrap ((y:Int)+(e:Int))=(s:Int):=by rw[IntWalk.i64_in _ (by omega)];omega
    have ab1:r<=15:=by omega
    have pA:(0:Int)<=(r:Int):=by omega
    clear e1 lm;have HY:=Ih hy;have HE:=Ih he;have HS:=Ih hs;have HQ:=Ih hq;have HRr:=Ih hr;clear hy he hs hq hr
    go_wp2_with fail
    go_still_tail 13,(by kernel_rfl)
    change wpList _ _ _ _ _ wr.drew
    go_upto_region 8 with fail
    obtain⟨K6,Sh⟩:∃K6,K6=xl.set q s:=⟨_,rfl⟩;obtain⟨W4,hW4⟩:∃W4,W4=(wr.setCell ⟨GX,q,none⟩ (.int .i64 (s:Int))).drew:=⟨_,rfl⟩;rw[<-hW4];have wH:eh W4 GX K6:=by rw[hW4,Sh];exact hx.set q s
    have O1:eh W4 GM ml:=by rw[hW4];exact(Below.heap_setCell wr ⟨GX,q,none⟩ _ GM (by simp;omega)).trans hm
    have eB:Below w.heap.size w W4:=by rw[hW4];exact(gz aC (by omega)).drew
    have ZW:k<69:=by omega
    have T4:=hR.out.yes ZW;have hVy:=hR.out.val ZW;rw[<-HQ.out,<-HRr.out,<-HY.out,<-HE.out,<-HS.out,<-Sh]at T4 hVy;have HXL:=Ih Sh;have Z0:=Ih T4;have HVy:=Ih hVy;have cT:=Ih (yB _ _ K6 K6 W4 wH.at wH.at T4.digs T4.digs (by rw[T4.len];omega) (by rw[T4.len];omega));rw[T4.len]at cT;clear hW4 Sh T4 hVy hx hm aC g5 g6 g7 hc hf
    go_wp2_with fail
    refine cT.out.mono ?_;rintro e1 w5 ⟨g5,o5,rfl,hl5,hd5,ZY,XY,bv⟩
    go_upto_if 40 with fail
    go_cut [8] (fun v wx=>∃(g:Nat) (o:List Nat),v=.slice (some ⟨g,0,none⟩) o.length o.length/\o.length<=15/\Hid (Lz.jO o)/\Hid (Lz.bO o=Lz.bO K6^d)/\eh wx g o/\Below W4.heap.size W4 wx)
    case first=>
     have O3:=wH.below bv;have cT2:=Ih (yB _ _ o5 K6 w5 XY.at O3.at hd5.out Z0.out.digs (by rw[hl5];omega) (by rw[Z0.out.len];omega));rw[hl5,Z0.out.len]at cT2;by_cases h3:d=3
     ·have h3B:((d:Int)==3)=true:=by rw[h3];rfl
      have DT:Hid (Lz.bO o5*Lz.bO K6=Lz.bO K6^d):=by show _=_;rw[ZY.out,h3];simp[Nat.pow_succ]
      clear h3
      go_wp2_with fail
      refine cT2.out.mono ?_;rintro e2 w6 ⟨g6,o6,rfl,hl6,hd6,hv6,hr6,eM⟩
      go_wp2_with fail
      go_meet;exact⟨g6,o6,by rw[hl6],by omega,hd6,Ih (hv6.out.trans DT.out),hr6,ae bv eM⟩
     ·have h3B:((d:Int)==3)=false:=by rw[beq_eq_false_iff_ne];omega
      have y5:Hid (Lz.bO o5=Lz.bO K6^d):=by
       show _=_;have hd2:d=2:=by rcases HD.out with h|h<;>omega
       rw[ZY.out,hd2];simp[Nat.pow_succ]
      clear h3
      go_wp2_with fail
      go_meet;exact⟨g5,o5,by rw[hl5],by omega,hd5,y5,XY,bv⟩
    case rest=>
     obtain⟨g,o,rfl,SD,hod,hov,Pr,Su⟩:=hcut;have hmc:=O1.below Su;have Lg:=wH.below Su;have Xj:Below w.heap.size w wc:=ae eB Su;have cA:=Ih (I1 _ _ o ml wc Pr.at hmc.at hod.out HMd.out (by omega) (by rw[HML.out,HN5.out,T7.out];rcases HD.out with h|h<;>omega));rw[hov.out,HMv.out,HML.out]at cA;have IR:=hZ.out;rw[Lz.oX]at IR;rw[<-HVy.out]at IR;by_cases AQ:M<Lz.bO K6^d
     ·rw[if_pos AQ]at IR;rw[decide_eq_true AQ]at cA;have HZn:=Ih IR;have HRn:=Ih hR.out.no
      have hcc:wc.cell? ⟨GX,q,none⟩=some (.int .i64 (s:Int)):=by
       have:=rowAt Lg q _ (lD (by rw[Z0.out.len];omega));rw[this,HXL.out,List.getD_eq_getElem?_getD,List.getElem?_set_self (by rw[hR.out.len];omega)];rfl
      have hfc:wc.frozen? ⟨GX,q,none⟩=false:=frozen_of_row _ _ _ _ _ Lg;have g5:(2:Int)^r=(e:Int):=by rw[HE.out];exact(Int.natCast_pow 2 r).symm
      have abU:e<=65536:=by rw[HE.out];exact Nat.le_trans (Nat.pow_le_pow_right (by omega) ab1) (by decide)
      have Wr:y<65536:=by rw[HY.out];exact hR.out.digs.get q
      have g6:IntKind.i64.wrap (e:Int)=(e:Int):=IntWalk.i64_in _ (by omega);have hsy:=HS.out;have g7:IntKind.i64.wrap ((s:Int)-(e:Int))=(y:Int):=by rw[IntWalk.i64_in _ (by omega)];omega
      have jg:=Ih (Lg.set q y);have Ua:K6.set q y=xl:=by rw[HXL.out,HY.out];exact Nu xl q s
      rw[Ua]at jg;have HMC:=Ih hmc;have abx:=Ih Xj;clear AQ IR hR hZ Lg hmc Xj Pr Su wH O1 eB Ua hsy abU Wr
      go_wp2_with fail
      refine cA.out.mono ?_;rintro e3 w7 ⟨rfl,rfl⟩
      go_wp2_with fail
      go_still_tail 13,(by kernel_rfl)
      change wpList _ _ _ _ _ wc.drew
      go_wp2_with fail
      go_roundw
      case rel=>exact⟨k,xl,rfl,by omega,HRn,HZn,jg.out,(Below.heap_setCell wc ⟨GX,q,none⟩ _ GM (by simp;omega)).trans HMC.out,(gz abx.out (by omega)).drew⟩
      case measure=>simp[intOf]
     ·rw[if_neg AQ]at IR;rw[decide_eq_false AQ]at cA;have HZn:=Ih IR;clear AQ IR hR hZ Pr Su wH O1 eB
      go_wp2_with fail
      refine cA.out.mono ?_;rintro e3 w7 ⟨rfl,rfl⟩
      go_wp2_with fail
      go_roundw
      case rel=>exact⟨k,K6,rfl,by omega,Z0,HZn,Lg,hmc,Xj⟩
      case measure=>simp[intOf]
attribute [local go_sem ↓] Go.wp_at_zero Go.wp_at_succ
theorem Yf (a:UInt32):IntKind.u32.wrap (N32 a)=N32 a:=IntWalk.u32_in _ (by unfold N32;have:=a.toNat_lt;omega)
theorem dM (x:UInt32) (n:Nat) (h0:0<n) (hn:n<32) (w:World):Calls Tryz.prog 113 #[.int .u32 (N32 x),.int .i64 (n:Int)] w fun e w'=>e=.returned (.int .u32 (N32 (Lz.aH x (UInt32.ofNat n))))/\Below w.heap.size w w':=by
 obtain⟨m,hm⟩:∃m,m=32-n:=⟨_,rfl⟩;have k3:=(GZ ⟨n,hn⟩ h0).2.2;simp only at k3;rw[<-hm]at k3;have wN:(0:Int)<=(n:Int):=by omega
 have wF:(0:Int)<=(m:Int):=by omega
 have DN:(n:Int)<=32:=by omega
 have Ax:(m:Int)<=32:=by omega
 have hs:IntKind.i64.wrap ((32:Int)-(n:Int))=(m:Int):=by rw[show(32:Int)-(n:Int)=(m:Int) by omega];exact IntWalk.i64_in _ (by omega)
 have e1:=MF x m (by omega);have e2:=sZ x n hn;have e3:=M9 (x>>>UInt32.ofNat n) (x<<<UInt32.ofNat m)
 have HV:Hid (Lz.aH x (UInt32.ofNat n)=(x>>>UInt32.ofNat n)||| (x<<<UInt32.ofNat m)):=by
  show _=_;unfold Lz.aH;rw[k3];exact UInt32.or_comm _ _
 clear hm k3;go_enter Tryz.func113,Tryz.ntmps113
 go_wp2_with fail
 go_quiet (fail)
 go_wp2_with fail
 go_ret;exact⟨by rw[HV.out];rfl,below_drewN (Below.refl _ _) _⟩
theorem dL (x:UInt64) (n:Nat) (h0:0<n) (hn:n<64) (w:World):Calls Tryz.prog 167 #[.int .u64 (N64 x),.int .i64 (n:Int)] w fun e w'=>e=.returned (.int .u64 (N64 (Lz.aU x (UInt64.ofNat n))))/\Below w.heap.size w w':=by
 obtain⟨m,hm⟩:∃m,m=64-n:=⟨_,rfl⟩;have k3:=(IF ⟨n,hn⟩ h0).2.2;simp only at k3;rw[<-hm]at k3;have wN:(0:Int)<=(n:Int):=by omega
 have wF:(0:Int)<=(m:Int):=by omega
 have DN:(n:Int)<=64:=by omega
 have Ax:(m:Int)<=64:=by omega
 have hs:IntKind.i64.wrap ((64:Int)-(n:Int))=(m:Int):=by rw[show(64:Int)-(n:Int)=(m:Int) by omega];exact IntWalk.i64_in _ (by omega)
 have e1:=Vo x m (by omega);have e2:=Ed x n hn;have e3:=PL (x>>>UInt64.ofNat n) (x<<<UInt64.ofNat m)
 have HV:Hid (Lz.aU x (UInt64.ofNat n)=(x>>>UInt64.ofNat n)||| (x<<<UInt64.ofNat m)):=by
  show _=_;unfold Lz.aU;rw[k3];exact UInt64.or_comm _ _
 clear hm k3;go_enter Tryz.func167,Tryz.ntmps167
 go_wp2_with fail
 go_quiet (fail)
 go_wp2_with fail
 go_ret;exact⟨by rw[HV.out];rfl,below_drewN (Below.refl _ _) _⟩
end Go.Proofs.YtibcmemcfjhgmaaGreatDoor
namespace Lz
open Go
def nQ (x n:UInt32):UInt32:=(x>>>n)||| (x<<<(32-n))
theorem tW (x n:UInt32):nQ x n=aH x n:=by unfold nQ aH;exact UInt32.or_comm _ _
theorem aaS (e f g:UInt64):((e&&& f) ^^^ ((~~~e)&&& g))=((e&&& f)||| (g&&& ~~~e)):=by
 apply UInt64.toBitVec_inj.1
 simp only[UInt64.toBitVec_xor,UInt64.toBitVec_and,UInt64.toBitVec_not,UInt64.toBitVec_or]
 apply BitVec.eq_of_getLsbD_eq
 intro i hi;simp only[BitVec.getLsbD_xor,BitVec.getLsbD_and,BitVec.getLsbD_not,BitVec.getLsbD_or,decide_eq_true hi,Bool.true_and];cases e.toBitVec.getLsbD i<;>cases f.toBitVec.getLsbD i<;>cases g.toBitVec.getLsbD i<;>rfl
theorem Zr (a b c:UInt64):(((a&&& b) ^^^ (a&&& c)) ^^^ (b&&& c))=((a&&& b)||| (c&&& (a||| b))):=by
 apply UInt64.toBitVec_inj.1
 simp only[UInt64.toBitVec_xor,UInt64.toBitVec_and,UInt64.toBitVec_or]
 apply BitVec.eq_of_getLsbD_eq
 intro i _;simp only[BitVec.getLsbD_xor,BitVec.getLsbD_and,BitVec.getLsbD_or];cases a.toBitVec.getLsbD i<;>cases b.toBitVec.getLsbD i<;>cases c.toBitVec.getLsbD i<;>rfl
theorem uP (x y:UInt32) (k:Nat) (hy:y.toNat<2^k) (hx:x.toNat%2^k=0):x||| y=x+y:=by
 have aL:=x.toNat_lt
 have e:x.toNat||| y.toNat=x.toNat+y.toNat:=by
  obtain⟨q,hq⟩:∃q,x.toNat=q<<<k:=⟨x.toNat / 2^k,by rw[Nat.shiftLeft_eq];have:=Nat.div_add_mod x.toNat (2^k);rw[hx,Nat.add_zero,Nat.mul_comm]at this;exact this.symm⟩;rw[hq,Nat.shiftLeft_add_eq_or_of_lt hy]
 have Pr:(x||| y).toNat<2^32:=(x||| y).toNat_lt
 apply UInt32.toNat_inj.1
 rw[UInt32.toNat_add,UInt32.toNat_or,e,Nat.mod_eq_of_lt];rw[UInt32.toNat_or,e]at Pr;exact Pr
theorem qf (b:UInt8):b.toUInt32<<<24=b.toUInt32*16777216/\b.toUInt32<<<16=b.toUInt32*65536/\b.toUInt32<<<8=b.toUInt32*256/\(b.toUInt32*16777216).toNat=b.toNat*16777216/\(b.toUInt32*65536).toNat=b.toNat*65536/\(b.toUInt32*256).toNat=b.toNat*256/\b.toUInt32.toNat=b.toNat:=by
 revert b;exact aA (by decide +kernel)
theorem VH (a b c d:UInt8):(((a.toUInt32<<<24)||| (b.toUInt32<<<16))||| (c.toUInt32<<<8))||| d.toUInt32=((a.toUInt32*16777216+b.toUInt32*65536)+c.toUInt32*256)+d.toUInt32:=by
 obtain⟨a1,_,_,a2,_,_,_⟩:=qf a;obtain⟨_,b1,_,_,b2,_,_⟩:=qf b;obtain⟨_,_,c1,_,_,c2,_⟩:=qf c;obtain⟨_,_,_,_,_,_,d2⟩:=qf d;have ha:=a.toNat_lt;have hb:=b.toNat_lt;have hc:=c.toNat_lt;have hd:=d.toNat_lt;rw[a1,b1,c1];have s1:(a.toUInt32*16777216+b.toUInt32*65536).toNat=a.toNat*16777216+b.toNat*65536:=by rw[UInt32.toNat_add,a2,b2];omega
 have s2:(a.toUInt32*16777216+b.toUInt32*65536+c.toUInt32*256).toNat=a.toNat*16777216+b.toNat*65536+c.toNat*256:=by rw[UInt32.toNat_add,s1,c2];omega
 rw[uP (a.toUInt32*16777216) (b.toUInt32*65536) 24 (by rw[b2];omega) (by rw[a2];omega)];rw[uP _ (c.toUInt32*256) 16 (by rw[c2];omega) (by rw[s1];omega)];rw[uP _ d.toUInt32 8 (by rw[d2];omega) (by rw[s2];omega)]
def aY (b:Bs):Nat->List UInt32
 | 0=>[]
 | i+1=>aY b i++[if i<16 then((il b (4*i)*16777216+il b (4*i+1)*65536)+il b (4*i+2)*256)+il b (4*i+3)else(((aY b i).getD (i-16) 0+((nQ ((aY b i).getD (i-15) 0) 7 ^^^ nQ ((aY b i).getD (i-15) 0) 18) ^^^ ((aY b i).getD (i-15) 0>>>3)))+(aY b i).getD (i-7) 0)+((nQ ((aY b i).getD (i-2) 0) 17 ^^^ nQ ((aY b i).getD (i-2) 0) 19) ^^^ ((aY b i).getD (i-2) 0>>>10))]
theorem jT (b:Bs):∀i,aY b i=bu b i
 | 0=>rfl
 | i+1=>by
   rw[aY,bu,jT b i];congr 2;by_cases h:i<16
   ·rw[if_pos h,if_pos h];exact(VH _ _ _ _).symm
   ·rw[if_neg h,if_neg h];simp only[tW];show(_+Uw _)+_+Y1 _=_;rw[UInt32.add_assoc ((bu b i).getD (i-16) 0),UInt32.add_comm (Uw _),<-UInt32.add_assoc]
end Lz
