/-
  hosts.bytes: four decimal numbers.
-/
import Derived.Test.YtecoeebjaleeiaaGreatDoorJ11
import Derived.Test.YtecoeebjaleeiaaGreatDoorJ09
set_option maxHeartbeats 1000000
set_option maxRecDepth 100000
namespace Lz
open Go
theorem Ap (c:UInt8) (l:Bs):av c l≠[]:=by
 cases l with
 | nil=>simp[av]
 | cons b r=>
   rw[av];split
   ·simp
   ·split<;>simp
theorem dropWhile_nil {p:UInt8->Bool}:∀{l:Bs},l.dropWhile p=[]↔l.all p=true
 | []=>by simp
 | a::r=>by
   rw[List.dropWhile_cons,List.all_cons];cases h:p a
   ·simp
   ·simpa using dropWhile_nil (p:=p) (l:=r)
theorem Kw {l cs:Bs}:Lib.trimS l cs=[]↔l.all (cs.contains ·)=true:=by
 unfold Lib.trimS Lib.trimLeftS Lib.trimRightS;rw[dropWhile_nil];constructor
 ·intro h;rw[List.all_reverse]at h
  have h2:∀r:Bs,(r.dropWhile (cs.contains ·)).all (cs.contains ·)=true->r.all (cs.contains ·)=true:=by
   intro r
   induction r with
   | nil=>simp
   | cons a r ih=>
     rw[List.dropWhile_cons,List.all_cons];cases h:cs.contains a
     ·simp only[Bool.false_eq_true,if_false];rw[List.all_cons,h];simp
     ·simpa using ih
  have:=h2 l.reverse h
  rwa [List.all_reverse]at this
 ·intro h;rw[List.all_reverse];have h2:∀r:Bs,r.all (cs.contains ·)=true->(r.dropWhile (cs.contains ·)).all (cs.contains ·)=true:=fun r hr=>by rw[dropWhile_nil.2 hr];rfl
  exact h2 _ (by rw[List.all_reverse];exact h)
theorem nJ (c:UInt8):([48,49,50,51,52,53,54,55,56,57]:Bs).contains c=bj c:=by revert c;exact aJ (by decide +kernel)
end Lz
namespace Go.Proofs.YtecoeebjaleeiaaGreatDoor
open Go.RowKit
structure gy (w:World) (b:Nat) (xs:List ByteArray):Prop where
 lt:b<w.heap.size
 cells:∀j x,xs[j]? =some x->w.cell? ⟨b,j,none⟩=some (.string x)
theorem gy.below {w w':World} {b:Nat} {xs:List ByteArray} (h:gy w b xs) (hb:Below w.heap.size w w'):gy w' b xs:=
 ⟨Nat.lt_of_lt_of_le h.lt hb.size,fun j x hj=>by rw[hb.cell (p:=⟨b,j,none⟩) h.lt];exact h.cells j x hj⟩
theorem gy.take {w:World} {b:Nat} {xs:List ByteArray} (h:gy w b xs) (n:Nat):gy w b (xs.take n):=
 ⟨h.lt,fun j x hj=>h.cells j x (by rw[List.getElem?_take]at hj;split at hj<;>simp_all)⟩
def Zk (ls:List (List UInt8)) (m:Nat) (w:World) (e:Ending) (w':World):Prop:=
 ∃(xs:List ByteArray) (b cap:Nat),e=.returned (.slice (some ⟨b,0,none⟩) xs.length cap)/\xs.length<=cap/\1<=xs.length/\xs.length<=m+1/\Hid (xs.map (·.data.toList)=ls)/\(∀x,x∈xs->x.size<=m)/\gy w' b xs/\Below w.heap.size w w'
theorem vR (s:ByteArray) (hs:s.size<=1048576) (w:World) (hE:dQ w):Calls Tryz.prog 248 #[.string s] w (Zk (Lz.dz s.data.toList) s.size w):=by
 have cS:=Ih (rD s 46 (by omega) w hE);go_enter Tryz.func248,Tryz.ntmps248
 go_wp2_with fail
 refine(cS.out).mono ?_;rintro e w1 ⟨xs,rfl,gW,km⟩;have gT:Hid (Lz.av 46 s.data.toList=xs.map (·.data.toList)):=Ih gW.out.symm
 have ba:xs.length<=s.size+1:=by
  have h:=Lz.fY 46 s.data.toList;rw[<-gW.out,List.length_map,aa]at h;omega
 have qS:1<=xs.length:=by
  have:=Lz.Ap 46 s.data.toList;rw[<-gW.out]at this;cases xs with
  | nil=>simp at this
  | cons _ _=>simp
 have ju:∀x,x∈xs->x.size<=s.size:=fun x hx=>ip gW.out hx;have ar:Below w.heap.size w w1:=by rw[km.out];exact(Below.refl _ w).alloc (Nat.le_refl _) _
 have hT:gy w1 w.heap.size xs:=by
  refine⟨by rw[km.out];simp,fun j x hj=>?_⟩;rw[km.out];have:=World.cell?_alloc_mark w (xs.map Value.string).toArray 9 (0,0) j;rw[this]
  simp[hj]
 obtain⟨x,hx⟩:∃x,xs[xs.length-1]? =some x:=⟨_,List.getElem?_eq_getElem (by omega)⟩;have Cf:=hT.cells _ _ hx;have jl:xs.getLast? =some x:=by rw[List.getLast?_eq_getElem?];exact hx
 have HT:=Ih hT;have SK:=Ih ju;have Hl:=Ih jl;clear cS km gW hT ju hx jl;obtain⟨n,hn⟩:∃n,n=xs.length-1:=⟨_,rfl⟩;rw[<-hn]at Cf;have yj:(xs.length:Int)-1=n:=by omega
 have hnl:n<xs.length:=by omega
 have pZ:(n:Int)<xs.length:=by omega
 have hn3:(n:Int)<=xs.length:=by omega
 have yd:(0:Int)<=n:=by omega
 have Hn:=Ih hn;clear hn;by_cases h1:1<xs.length
 ·have hn4:(0:Int)<n:=by omega
  by_cases hz:x.size=0
  ·have he:=aq hz
   have HD:Hid ((xs.take n).map (·.data.toList)=Lz.dz s.data.toList):=by
    show _=_;unfold Lz.dz
    rw[gT.out,if_pos ⟨by simpa using h1,by
     rw[List.getLast?_map,Hl.out];show some x.data.toList=some [];rw[List.length_eq_zero_iff.1 (show x.data.toList.length=0 by rw[aa];exact hz)]⟩]
    rw[List.dropLast_eq_take,List.length_map,List.map_take,Hn.out]
   clear gT
   go_wp2
   go_ret;refine⟨xs.take n,w.heap.size,xs.length,?_,by simp;omega,by simp;omega,by simp;omega,HD,fun y hy=>SK.out y (List.mem_of_mem_take hy),HT.out.take n,ar⟩;rw[List.length_take,Nat.min_eq_left (by omega)];rfl
  ·have he:=an (s:=x) (by omega)
   have HD:Hid (xs.map (·.data.toList)=Lz.dz s.data.toList):=by
    show _=_;unfold Lz.dz;rw[gT.out,if_neg];rintro⟨_,h⟩;rw[List.getLast?_map,Hl.out]at h;have:x.data.toList=[]:=Option.some.inj h;exact hz (by rw[<-aa,this];rfl)
   clear gT
   go_wp2
   go_ret;exact⟨xs,w.heap.size,xs.length,rfl,Nat.le_refl _,qS,ba,HD,SK.out,HT.out,ar⟩
 ·have hn4:¬(0:Int)<n:=by omega
  have HD:Hid (xs.map (·.data.toList)=Lz.dz s.data.toList):=by
   show _=_;unfold Lz.dz;rw[gT.out,if_neg];rintro⟨h,_⟩;exact h1 (by simpa using h)
  clear gT
  go_wp2
  go_ret;exact⟨xs,w.heap.size,xs.length,rfl,Nat.le_refl _,qS,ba,HD,SK.out,HT.out,ar⟩
theorem Ed (s:ByteArray) (hs:s.size<=1073741824) (w:World):
  Calls Tryz.prog 274 #[.string s,.string ⟨#[48,49,50,51,52,53,54,55,56,57]⟩] w (gJ (Lib.trimS s.data.toList [48,49,50,51,52,53,54,55,56,57]) w):=
 (Any.strings_Trim_laid Tryz.lays160 (by kernel_rfl) s ⟨#[48,49,50,51,52,53,54,55,56,57]⟩ w (by omega) (by decide) (ascii_of_all (by decide))).mono fun _ _ ⟨h1,h2⟩=>⟨_,h1,Ih rfl,h2⟩
theorem Bq {xs:List ByteArray} {ls:List (List UInt8)} {x:ByteArray} (h:xs.map (·.data.toList)=ls) (hx:xs[xs.length-1]? =some x):ls.getLastD []=x.data.toList:=by
 rw[<-h,List.getLastD_eq_getLast?,List.getLast?_map,List.getLast?_eq_getElem?,hx];rfl
theorem rA (s:ByteArray) (hs:s.size<=1048576) (w:World) (hE:dQ w):Calls Tryz.prog 246 #[.string s] w (aC (Lz.cu s.data.toList) w):=by
 have cL:=Ih (vR s hs w hE);go_enter Tryz.func246,Tryz.ntmps246
 go_wp2_with fail
 refine(cL.out).mono ?_;rintro e w1 ⟨xs,b,cap,rfl,iW,qS,ba,Lt,ju,hT,ar⟩;obtain⟨x,hx⟩:∃x,xs[xs.length-1]? =some x:=⟨_,List.getElem?_eq_getElem (by omega)⟩;have Cf:=hT.cells _ _ hx;have T8:=ju x (List.mem_of_getElem? hx);have jl:=Bq Lt.out hx;obtain⟨n,hn⟩:∃n,n=xs.length-1:=⟨_,rfl⟩;rw[<-hn]at Cf;have yj:(xs.length:Int)-1=n:=by omega
 have pZ:(n:Int)<xs.length:=by omega
 have yd:(0:Int)<=n:=by omega
 obtain⟨q,hq⟩:∃q,q=Lz.gR Lz.bj x.data.toList:=⟨_,rfl⟩;have hN:Lz.cu s.data.toList=(q||(Lz.sD x.data.toList).isSome):=by unfold Lz.cu;rw[jl,hq]
 have HN:=Ih hN;have Hq:=Ih hq;clear hN jl hq hn hx Lt ju hT cL;have cN:=Ih (fun W=>xR x (by omega) W)
 go_upto_region 3 with fail
 go_cut [21] (fun s21 wx=>s21=.bool q/\Below w.heap.size w wx)
 case first=>
  by_cases hz:x.size=0
  ·have he:=aq hz
   have HQ:Hid (q=false):=by
    show _=_;rw[Hq.out,List.length_eq_zero_iff.1 (show x.data.toList.length=0 by rw[aa];exact hz)];rfl
   go_wp2_with fail
   go_meet;exact⟨by rw[HQ.out],ar⟩
  ·have he:=an (s:=x) (by omega)
   go_wp2_with fail
   refine(Ed x (by omega) _).mono ?_;rintro e w2 ⟨t,rfl,ht,az⟩
   have XK:q=t.toList.isEmpty:=by
    rw[Hq.out,Lib.toList_data,ht.out];unfold Lz.gR;have ed:x.data.toList≠[]:=by intro h;exact hz (by rw[<-aa,h];rfl)
    rw[Bool.eq_iff_iff];simp only[Bool.and_eq_true,List.isEmpty_iff,Lz.Kw,Bool.not_eq_true',List.isEmpty_eq_false_iff];constructor
    ·rintro⟨h,_⟩;rw[List.all_eq_true]at h⊢;exact fun c hc=>(Lz.nJ c).trans (h c hc)
    ·intro h;rw[List.all_eq_true]at h;exact⟨List.all_eq_true.2 (fun c hc=>(Lz.nJ c).symm.trans (h c hc)),ed⟩
   have HQ:=Ih XK;clear XK
   go_wp2_with fail
   go_meet;exact⟨by rw[HQ.out],ac ar az⟩
 case rest=>
  obtain⟨rfl,LU⟩:=hcut;cases q
  ·go_wp2_with fail
   refine(cN.out _).mono ?_;rintro e w2 ⟨az,hr⟩;cases ho:Lz.sD x.data.toList with
   | none=>
     rw[ho]at hr;obtain⟨v,rfl,hF⟩:=hr;obtain⟨t0,x0,rfl⟩:=hF.iface;have lV:Hid (Lz.cu s.data.toList=false):=by show _=_;rw[HN.out,ho];rfl
     clear ho
     go_wp2
     go_ret;exact⟨by rw[lV.out];rfl,ac LU az⟩
   | some n=>
     rw[ho]at hr;obtain⟨rfl,_⟩:=hr;have lV:Hid (Lz.cu s.data.toList=true):=by show _=_;rw[HN.out,ho];rfl
     clear ho
     go_wp2
     go_ret;exact⟨by rw[lV.out];rfl,ac LU az⟩
  ·have lV:Hid (Lz.cu s.data.toList=true):=by show _=_;rw[HN.out];rfl
   go_wp2
   go_ret;exact⟨by rw[lV.out];rfl,LU⟩
theorem Jf:(Tryz.prog.info? 9).map (fun i=>(i.zero,i.size,i.bytes))=some (some (.string ⟨#[]⟩),1,16):=by kernel_rfl
theorem rG (sep:List UInt8):∀ls:List (List UInt8),Lib.join ls sep=Lz.gi sep ls
 | []=>rfl
 | [x]=>by simp[Lib.join,Lz.gi]
 | x::y::r=>by
   have:=rG sep (y::r)
   simp[Lib.join,Lz.gi]at this⊢
   rw[<-this]
theorem bH {w w1:World} {base:Nat} {e:TypeId} {size n:Nat} {v:Value} {xs:List Value} (h:w.ownsRow base e size v n xs) (hb:Below w.heap.size w w1):w1.ownsRow base e size v n xs:=
 h.kept (row:=none) (by constructor<;>first |exact hb.os|exact hb.tape|exact hb.output|exact hb.size|exact fun k hk _=>hb.block k hk) (by cases hv:v.ownBlock<;>simp)
theorem aa5 (c:UInt8):(Lib.decDigits c.toNat).length<=3:=by revert c;exact Lz.aJ (by decide +kernel)
theorem An {w:World} {base:Nat} {v:Value} {n:Nat} {xs:List ByteArray} (h:w.ownsRow base 9 1 v n (xs.map Value.string)) (hn:1<=n):
  ∃b cap,v=.slice (some ⟨b,0,none⟩) xs.length cap/\xs.length<=cap/\gy w b xs:=by
 have hl:xs.length=n:=by have:=h.1;simpa using this
 rcases h.2 with⟨rfl,h0⟩|⟨g,cap,dB,rfl,Lw,hg,TW,gL,iZ,gH⟩
 ·omega
 ·refine⟨g,cap,by rw[hl],by omega,(Array.getElem?_eq_some_iff.1 hg).1,fun j x hj=>?_⟩;have h2:(xs.map Value.string)[j]? =some (.string x):=by simp[hj]
  rw[<-gH,List.getElem?_take]at h2;split at h2
  ·simp only[World.cell?,hg];simpa using h2
  ·cases h2
theorem DC (sep:List UInt8) (m:Nat):∀ls:List (List UInt8),(∀x,x∈ls->x.length<=m)->(Lib.join ls sep).length<=ls.length*(m+sep.length):=by
 intro ls;rw[rG]
 induction ls with
 | nil=>intro _;simp[Lz.gi]
 | cons x r ih=>
   intro h;have hx:=h x (by simp);have hr:=ih (fun y hy=>h y (by simp[hy]));cases r with
   | nil=>simp[Lz.gi];omega
   | cons y r=>
     simp only[Lz.gi,List.length_append,List.length_cons,Nat.succ_mul]at hr⊢;omega
theorem Ol (b cap:Nat) (xs:List ByteArray) (sep:ByteArray) (w:World) (hT:gy w b xs) (hc:xs.length<=cap) (hn:xs.length<=1000000) (m:Nat) (hm:m<=1000000) (hx:∀x,x∈xs->x.size<=m) (hs:sep.size<=10):
  Calls Tryz.prog 232 #[.slice (some ⟨b,0,none⟩) xs.length cap,.string sep] w (gJ (Lz.gi sep.data.toList (xs.map (·.data.toList))) w):=by
 have hj:=DC sep.data.toList m (xs.map (·.data.toList)) (by
  intro y hy;obtain⟨x,hx',rfl⟩:=List.mem_map.1 hy;rw[aa];exact hx x hx')
 rw[List.length_map,aa]at hj;have hb:xs.length*(m+sep.size)<=1000000*1000010:=Nat.mul_le_mul hn (by omega);have h:=Tryz.strings_Join b 0 cap xs sep w (fun j x hj=>by rw[Nat.zero_add];exact hT.cells j x hj) hT.lt (by omega) hc (by omega);exact h.mono fun e w' ⟨h1,h2⟩=>⟨_,h1,Ih (by rw[<-rG]),h2⟩
theorem FF (v:Value) (l:List UInt8) (w:World) (hE:dQ w) (hl:SlB w v l) (ba:l.length<=16) (Cj:1<=l.length):Calls Tryz.prog 276 #[v] w (gJ (Lz.fH (l.map (·.toNat))) w):=by
 obtain⟨i0,hi,fI,ei,eM⟩:=info_parts Jf;obtain⟨a,c,rfl,hl9,aA⟩:=hl;have Hc:=Ih aA;clear aA;have h0:=World.ownsRow_nil w w.heap.size 9 1;go_enter Tryz.func276,Tryz.ntmps276
 go_wp2
 go_loopw [3,8] (fun a i wr=>∃(j:Nat) (xs:List ByteArray),j<=l.length/\i=.int .i64 j/\Hid (xs.map (·.data.toList)=(l.take j).map (fun c=>Lib.decDigits c.toNat))/\wr.ownsRow w.heap.size 9 1 a j (xs.map Value.string)/\Below w.heap.size w wr) (fun _ i _=>l.length-(intOf i).toNat)
 case atStart=>exact⟨0,[],Nat.zero_le _,rfl,Ih rfl,h0,Below.refl _ w⟩
 case round=>
  clear h0;obtain⟨j,xs,hj,rfl,gW,au,hb⟩:=hrel;have ju:=hb.size;have ew:=Ih au;by_cases aV:j<l.length
  ·have hg:l[j]? =some l[j]:=List.getElem?_eq_getElem aV;obtain⟨B,off,rfl,hBl,pJ⟩:=Hc.out j l[j] hg;have Z9:wr.cell? ⟨B,off+j,none⟩=some (.int .u8 l[j].toNat):=by rw[hb.cell (p:=⟨B,off+j,none⟩) hBl];exact pJ
   have gH:l.take (j+1)=l.take j++[l[j]]:=by rw[List.take_add_one,hg];rfl
   generalize l[j]=c at *;have Lr:=Ih gH;have Ty:=jz c;clear gH hg pJ au;have qP:(0:Int)<=(c.toNat:Int):=by omega
   go_wp2_with fail
   refine(sy (c.toNat:Int) (by omega) (by omega) _ (hE.below hb)).mono ?_;rintro e w1 ⟨t,rfl,ht,ar⟩;have gV:=Ih (bH ew.out ar);have az:Below w.heap.size w w1:=ac hb ar;have ye:=az.size;have hst:xs.map Value.string++[Value.string t]=(xs++[t]).map Value.string:=by simp
   have gM:=Ih hst
   have Ww:Hid ((xs++[t]).map (·.data.toList)=(l.take (j+1)).map (fun c=>Lib.decDigits c.toNat)):=by
    show _=_;rw[Lr.out,List.map_append,List.map_append,gW.out,List.map_singleton,List.map_singleton,ht.out,Lib.itoa_nonneg]
   clear hst Lr
   go_wp2_with (at_builtin;refine wpList_append_own _ rfl (.tmp 12) (.tmp 16) 30 rfl w.heap.size 9 i0 (.string ⟨#[]⟩) 1 16 Tryz.underlying30 hi fI ei eM rfl (by decide) _ _ _ rfl (gV.out.alloc _) ⟨w1.heap.size,0,none⟩ 1 1 [.string t] rfl rfl (bD _ _ _) (by simp[Value.oneCell']) (by unfold maxLen;omega) (by omega) (by simp;omega) ?_)
   intro v' w3 bf cp _;have aO:=Below.grown1 az gV.out cp ye (Nat.le_refl _);rw[gM.out]at bf;have fi:=Ih bf;clear bf cp
   go_wp2
   go_roundw
   case rel=>exact⟨j+1,xs++[t],by omega,by go_num,Ww.out,fi.out,aO⟩
   case measure=>simp[intOf];omega
  ·have nP:j=l.length:=by omega
   obtain⟨b,cap,rfl,iW,hT⟩:=An au (by omega);have o7:xs.length=j:=by have:=au.1;simpa using this
   have Xe:∀x,x∈xs->x.size<=3:=by
    intro x hx;have h1:x.data.toList∈(l.take j).map (fun c=>Lib.decDigits c.toNat):=by rw[<-gW.out];exact List.mem_map_of_mem hx
    obtain⟨c,_,hc⟩:=List.mem_map.1 h1;rw[<-aa,<-hc];exact aa5 c
   have HX:=Ih Xe;have HT:=Ih hT;have VL:=Ih iW;have ZX:Hid (xs.length<=1000000):=by show _<=_;omega
   have Hj:=Ih nP;have Ix:¬j<l.length:=aV;clear Xe hT au ew o7 nP iW aV
   go_wp2_with fail
   with_reducible refine(Ol b cap xs ⟨#[46]⟩ _ HT.out VL.out ZX.out 3 (by omega) HX.out (by decide)).mono ?_
   rintro e w1 ⟨u,rfl,hu,ar⟩
   go_wp2
   go_ret;refine⟨u,rfl,Ih ?_,ac hb ar⟩;rw[hu.out,gW.out,Hj.out,List.take_length];unfold Lz.fH;rw[List.map_map];rfl
def RPu (l:List UInt8) (w:World) (e:Ending) (w':World):Prop:=
 Below w.heap.size w w'/\((∃u,Lib.parseUintB 8 l=.ok u/\e=.returned (.tuple #[.int .u64 u,.nilIface]))\/((∀u,Lib.parseUintB 8 l≠.ok u)/\∃n t p,e=.returned (.tuple #[.int .u64 n,.iface t p])))
theorem Dr (s:ByteArray) (hs:s.size<=1073741824) (w:World) (hE:dQ w):Calls Tryz.prog 284 #[.string s,.int .i64 10,.int .i64 8] w (RPu s.data.toList w):=by
 by_cases ho:∃u,Lib.parseUintB 8 s.data.toList=.ok u
 ·obtain⟨u,hu⟩:=ho;refine(Tryz.strconv_ParseUint_10_at8_ok s (by omega) u hu w).mono fun e w' ⟨he,hw⟩=>⟨?_,Or.inl ⟨u,hu,he⟩⟩;rcases hw with rfl|rfl
  ·exact Below.refl _ _
  ·exact Lib.bytesWorld_below _ _ _
 ·have hn:∀u,Lib.parseUintB 8 s.data.toList≠.ok u:=fun u h=>ho ⟨u,h⟩;by_cases hr:Lib.parseUintB 8 s.data.toList=.range
  ·obtain⟨te,pe,hv⟩:=hE.rng;refine(Tryz.strconv_ParseUint_10_at8_range s (by omega) hr (.iface te pe) w hv (Or.inr ⟨te,pe,rfl⟩)).mono ?_;rintro e w' ⟨N,he,_,_,hb⟩;exact⟨hb,Or.inr ⟨hn,_,_,_,he⟩⟩
  ·have hx:Lib.parseUintB 8 s.data.toList=Lib.parseUintB 8 []:=by
    cases h:Lib.parseUintB 8 s.data.toList
    all_goals first |rfl|exact absurd h (hn _)|exact absurd h hr
   obtain⟨te,pe,hv⟩:=hE.syn;refine(Tryz.strconv_ParseUint_10_at8_syntax s (by omega) hx (.iface te pe) w hv (Or.inr ⟨te,pe,rfl⟩)).mono ?_;rintro e w' ⟨N,he,_,_,hb⟩;exact⟨hb,Or.inr ⟨hn,_,_,_,he⟩⟩
theorem wO {f:List UInt8->Option Nat} {l:List (List UInt8)} {ls:List Nat} {x:List UInt8} {n:Nat} (h:l.mapM f=some ls) (hx:f x=some n):(l++[x]).mapM f=some (ls++[n]):=by
 rw[List.mapM_append,h];simp[hx]
theorem AC {f:List UInt8->Option Nat} {l:List (List UInt8)} {x:List UInt8} (hm:x∈l) (hx:f x=none):l.mapM f=none:=by
 obtain⟨a,b,rfl⟩:=List.append_of_mem hm;rw[List.mapM_append,List.mapM_cons,hx];cases a.mapM f<;>simp
def u8n (l:List Nat):List Value:=l.map fun n:Nat=>Value.int .u8 (n:Int)
theorem xG (l:List Nat) (n:Nat):u8n l++[.int .u8 (n:Int)]=u8n (l++[n]):=by simp[u8n]
def S2 (o:Option (List Nat)) (w:World) (e:Ending) (w':World):Prop:=
 Below w.heap.size w w'/\match o with
  | some l=>l.length=4/\∃v base,e=.returned (.tuple #[v,.nilIface])/\w.heap.size<=base/\w'.ownsRow base 5 1 v 4 (u8n l)
  | none=>∃v,e=.returned (.tuple #[.slice none 0 0,v])/\dF w' 72 1 v
theorem qJ {w wx:World} {s:ByteArray} {t:TypeId} {fr:Nat×Nat} (hb:Below w.heap.size w wx):
  S2 none w (.returned (.tuple #[.slice none 0 0,.iface 263 (.pointer (some ⟨wx.heap.size,0,none⟩))])) (wx.alloc (.cells #[.string s,.iface 33 (.int .i64 72)] t fr)):=
 ⟨hb.alloc hb.size _,_,rfl,gx rfl⟩
theorem zj {l:List UInt8} {u:Nat} (h:Lib.parseUintB 8 l=.ok u):u<=255:=Lib.parseUintB_le h
theorem J0 (s:ByteArray) (hs:s.size<=1048576) (w:World) (hE:dQ w):Calls Tryz.prog 271 #[.string s] w (S2 (Lz.ia s.data.toList) w):=by
 obtain⟨i0,hi,fI,ei,eM⟩:=info_parts ry;have cS:=Ih (rD s 46 (by omega) w hE);go_enter Tryz.func271,Tryz.ntmps271
 go_wp2_with fail
 refine(cS.out).mono ?_;rintro e w1 ⟨xs,rfl,gW,km⟩
 have ba:xs.length<=s.size+1:=by
  have h:=Lz.fY 46 s.data.toList;rw[<-gW.out,List.length_map,aa]at h;omega
 have ju:∀x,x∈xs->x.size<=s.size:=fun x hx=>ip gW.out hx;have ar:Below w.heap.size w w1:=by rw[km.out];exact(Below.refl _ w).alloc (Nat.le_refl _) _
 have hT:gy w1 w.heap.size xs:=by
  refine⟨by rw[km.out];simp,fun j x hj=>?_⟩;rw[km.out];have:=World.cell?_alloc_mark w (xs.map Value.string).toArray 9 (0,0) j;rw[this]
  simp[hj]
 have HT:=Ih hT;have SK:=Ih ju
 have hB:Hid (Lz.ia s.data.toList=match (xs.map (·.data.toList)).mapM Lz.lE with|some l=>if l.length=4 then some l else none|none=>none):=by
  show _=_;rw[gW.out];rfl
 have SI:=ar.size;clear cS km hT ju;have hst:=World.ownsRow_nil w1 w1.heap.size 5 1
 go_wp2_with fail
 go_loopw [4,12] (fun a i wr=>∃(j:Nat) (ls:List Nat),j<=xs.length/\i=.int .i64 j/\Hid (((xs.take j).map (·.data.toList)).mapM Lz.lE=some ls)/\ls.length=j/\wr.ownsRow w1.heap.size 5 1 a j (u8n ls)/\Below w1.heap.size w1 wr) (fun _ i _=>xs.length-(intOf i).toNat)
 case atStart=>exact⟨0,[],Nat.zero_le _,rfl,Ih rfl,rfl,hst,Below.refl _ w1⟩
 case round=>
  clear hst;obtain⟨j,ls,hj,rfl,Lt,Ix,au,hb⟩:=hrel;have aK:=ac ar hb;have ju:=hb.size;have ew:=Ih au;by_cases aV:j<xs.length
  ·obtain⟨x,hx⟩:∃x,xs[j]? =some x:=⟨_,List.getElem?_eq_getElem aV⟩;have Cf:=(HT.out.below hb).cells _ _ hx;have T8:=SK.out x (List.mem_of_getElem? hx);have Qj:Hid (x.data.toList∈xs.map (·.data.toList)):=Ih (List.mem_map_of_mem (List.mem_of_getElem? hx));have gH:xs.take (j+1)=xs.take j++[x]:=by rw[List.take_add_one,hx];rfl
   have Lr:=Ih gH;clear gH hx au
   go_wp2_with fail
   refine(Dr x (by omega) _ (hE.below aK)).mono ?_;rintro e w2 ⟨az,⟨u,hu,rfl⟩|⟨hn,n,t,p,rfl⟩⟩
   ·have hu8:=zj hu;have Hu:=Ih hu;clear hu;have ft:=ac aK az
    go_wp2_with fail
    refine(sy (u:Int) (by omega) (by omega) _ (hE.below ft)).mono ?_;rintro e w3 ⟨d,rfl,hd,aO⟩;have jc:=ac ft aO;have fi:=Ih (bH (bH ew.out az) aO);have yo:=jc.size;have zx:Below w1.heap.size w1 w3:=ac (ac hb az) aO;have OU:=zx.size;have vm:Hid (d.data.toList=Lib.decDigits u):=by show _=_;rw[hd.out,Lib.itoa_nonneg]
    have Qc:Hid (Lz.lE x.data.toList=if d.toList==x.toList then some u else none):=by
     show _=_
     have h1:Lz.lE x.data.toList=if Lib.decDigits u=x.data.toList then some u else none:=by
      unfold Lz.lE;rw[Hu.out]
     rw[h1,Lib.toList_data,Lib.toList_data,vm.out];by_cases h:Lib.decDigits u=x.data.toList<;>simp[h]
    generalize hq:(d.toList==x.toList)=q at Qc;cases q
    ·have HB:Hid (Lz.ia s.data.toList=none):=by
      show _=_;rw[hB.out,AC Qj.out Qc.out]
     go_wp2
     go_ret2
     rw[HB.out];exact qJ jc
    ·have abF:Hid (((xs.take (j+1)).map (·.data.toList)).mapM Lz.lE=some (ls++[u])):=by
      show _=_;rw[Lr.out,List.map_append];exact wO Lt.out Qc.out
     go_wp2_with (at_builtin;refine wpList_append_own _ rfl (.tmp 34) (.tmp 37) 75 rfl w1.heap.size 5 i0 (.int .u8 0) 1 1 Tryz.underlying75 hi fI ei eM rfl (by decide) _ _ _ rfl (fi.out.alloc _) ⟨w3.heap.size,0,none⟩ 1 1 [.int .u8 (u:Int)] rfl rfl (bD _ _ _) (by simp[Value.oneCell']) (by unfold maxLen;omega) (by omega) (by simp;omega) ?_)
     intro v' w4 bf cp _;have dy:Below w1.heap.size w1 w4:=Below.grown1 zx fi.out cp OU (Nat.le_refl _);rw[xG]at bf;have gr:=Ih bf;clear bf cp
     go_wp2
     go_roundw
     case rel=>exact⟨j+1,ls++[u],by omega,by go_num,abF.out,by simp[Ix],gr.out,dy⟩
     case measure=>simp[intOf];omega
   ·have HB:Hid (Lz.ia s.data.toList=none):=by
     show _=_
     have h1:Lz.lE x.data.toList=none:=by
      unfold Lz.lE;split
      ·rename_i n' h;exact absurd h (hn _)
      ·rfl
     rw[hB.out,AC Qj.out h1]
    clear hn
    go_wp2
    go_ret2
    rw[HB.out];exact qJ (ac aK az)
  ·have nP:j=xs.length:=by omega
   have jU:Hid (Lz.ia s.data.toList=if j=4 then some ls else none):=by
    show _=_;have:=Lt.out;rw[nP,List.take_length]at this;rw[hB.out,this];show(if ls.length=4 then some ls else none)=_;rw[Ix]
   obtain⟨a,c,rfl⟩:∃a c,u4=.slice a j c:=by
    rcases au.2 with⟨rfl,h0⟩|⟨g,cap,dB,rfl,_⟩
    ·exact⟨none,0,by rw[h0]⟩
    ·exact⟨_,_,rfl⟩
   have Hjl:=Ih nP;have EZ:¬j<xs.length:=aV;clear au nP aV;by_cases h4:j=4
   ·have HB:Hid (Lz.ia s.data.toList=some ls):=by show _=_;rw[jU.out,if_pos h4]
    have H4:=Ih h4;have h4b:((j:Int) != 4)=false:=by rw[h4];rfl
    clear h4
    go_wp2
    go_ret2
    rw[HB.out];refine⟨aK,by rw[Ix];exact H4.out,_,w1.heap.size,rfl,SI,?_⟩;have:=ew.out;rw[H4.out]at this⊢;exact this
   ·have HB:Hid (Lz.ia s.data.toList=none):=by show _=_;rw[jU.out,if_neg h4]
    have h4b:((j:Int) != 4)=true:=by simp;omega
    clear h4
    go_wp2
    go_ret2
    rw[HB.out];exact qJ aK
end Go.Proofs.YtecoeebjaleeiaaGreatDoor
