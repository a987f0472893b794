/-
  lazaretref07: four.
-/
import Derived.Test.YtipndhbgehdeoaaGreatDoorQ30
import Derived.Test.YtipndhbgehdeoaaGreatDoorQ21
import Derived.Laws.AppendOwnNone
set_option maxHeartbeats 8000000
set_option maxRecDepth 100000
namespace Go.Proofs.YtipndhbgehdeoaaGreatDoor
open Go.RowKit
theorem at08_any (v:Value) (u:Lz.UrlL) (w:World) (hv:UrlVal w v u) (hE:EnvH w) (h0: -9223372036854775808<=u.port) (h1:u.port<=9223372036854775807) (hL:u.host.length<=1000000000):Calls Tryz.prog 25 #[v] w (RStr (Lz.atU u) w):=by
 obtain⟨sch,usr,pas,hh,hst,prt,opq,a,c,xs,hq,hf,qry,frg,rfl,rfl,hx⟩:=hv.form;replace h0: -9223372036854775808<=prt:=h0;replace h1:prt<=9223372036854775807:=h1;replace hL:hst.data.toList.length<=1000000000:=hL;rw[len_of_size]at hL;obtain⟨goal,hg⟩:∃goal,goal=Lz.atU ⟨sch.data.toList,usr.data.toList,pas.data.toList,hh,hst.data.toList,prt,opq,xs.map (fun x:ByteArray=>x.data.toList),hq,hf,qry.data.toList,frg.data.toList⟩:=⟨_,rfl⟩;rw[<-hg];have hg2:goal=if prt= -1 then hst.data.toList else hst.data.toList++[58]++Lib.itoa prt:=hg;have HG:=Ih hg2;obtain⟨W,hW⟩:∃W,W=w.alloc (.cells #[.string sch,.string usr,.string pas,.bool hh,.string hst,.int .i64 prt,.bool opq,.slice a xs.length c,.bool hq,.bool hf,.string qry,.string frg] 25):=⟨_,rfl⟩;have hbW:Below w.heap.size w W:=by rw[hW];exact(Below.refl _ w).alloc (Nat.le_refl _) _
 have hR:W.heap[w.heap.size]? =some (.cells #[.string sch,.string usr,.string pas,.bool hh,.string hst,.int .i64 prt,.bool opq,.slice a xs.length c,.bool hq,.bool hf,.string qry,.string frg] 25 (0,0)):=by rw[hW];exact heap_new _ _
 have hlt:=row_lt hR;have c4:=rowAt hR 4 (.string hst) rfl;have c5:=rowAt hR 5 (.int .i64 prt) rfl;have HW:=Ih hW;have HE:=Ih (hE.below hbW);clear hW hR hv hx hg hg2 hE;by_cases hp:prt= -1
 ·have hpb:(prt== -1)=true:=by simp[hp]
  have HG2:Hid (goal=hst.data.toList):=by show _=_;rw[HG.out,if_pos hp]
  clear hp;go_enter Tryz.func25,Tryz.ntmps25
  go_wp2_with (rw[<-HW.out])
  go_ret;exact⟨hst,rfl,Ih HG2.out.symm,hbW⟩
 ·have hpb:(prt== -1)=false:=by simp[hp]
  have HG2:Hid (goal=hst.data.toList++[58]++Lib.itoa prt):=by show _=_;rw[HG.out,if_neg hp]
  clear hp;have n1:¬(9223372036854775807<hst.size+1):=by omega
  have hSd:AtS hst prt w.heap.size W W.drew:=⟨c4,c5,HE.out.below (Below.refl _ _).drew,(Below.refl _ _).drew⟩
  have cI:Hid (∀V,AtS hst prt w.heap.size W V->Calls Tryz.prog 46 #[.int .i64 prt] V fun e w'=>∃u:ByteArray,e=.returned (.string u)/\Hid (u.data.toList=Lib.itoa prt)/\u.size<=21/\AtS hst prt w.heap.size W w'):=Ih (by
   rintro V ⟨k4,k5,kE,kb⟩;refine(Itoa_h prt h0 h1 V kE).mono ?_;rintro e w' ⟨u,he,hu,hb'⟩;have hlt':=Nat.lt_of_lt_of_le hlt kb.size;exact⟨u,he,hu,by rw[<-len_of_size,hu.out];exact itoa_len2 h0 h1,by rw[hb'.cell (p:=⟨w.heap.size,4,none⟩) hlt'];exact k4,by rw[hb'.cell (p:=⟨w.heap.size,5,none⟩) hlt'];exact k5,kE.below hb',below_call kb hb'⟩)
  go_enter Tryz.func25,Tryz.ntmps25
  go_wp2_with (rw[<-HW.out])
  go_upto_region 3 with fail
  go_cut [2] (fun s wx=>∃u:ByteArray,s=.string u/\Hid (u.data.toList=goal)/\Below w.heap.size w wx)
  case first=>
   go_region_held3 (fun V=>V.cell? ⟨w.heap.size,4,none⟩=some (.string hst)/\V.cell? ⟨w.heap.size,5,none⟩=some (.int .i64 prt)/\AtE W V) (first |assumption|exact hSd) (first |(go_at_call 46;refine(cI.out _ (by assumption)).mono ?_;rintro e w2 ⟨t,rfl,ht,hs,hS2⟩;have n2:¬(9223372036854775807<hst.size+1+t.size):=(by omega)))
   go_wp2_with fail
   go_meet;exact⟨_,rfl,by show _=_;rw[HG2.out,append_data',append_data',ht.out],hbW.trans (hS2.2.2.2.mono hbW.size)⟩
  case rest=>
   obtain⟨u,rfl,hu,hb⟩:=hcut
   go_wp2_with fail
   go_ret;exact⟨_,rfl,hu,hb⟩
theorem cat_len {u:ByteArray} {l:List UInt8} (h:u.data.toList=l):u.size=l.length:=by rw[<-len_of_size,h]
theorem Text08_any (v:Value) (u:Lz.UrlL) (w:World) (hv:UrlVal w v u) (hE:EnvH w) (hp0: -9223372036854775808<=u.port) (hp1:u.port<=9223372036854775807) (hH:u.host.length<=1000000000) (hT:(Lz.textU u).length<=1000000000) (hN:u.path.length<=1000000000):Calls Tryz.prog 10 #[v] w (RStr (Lz.textU u) w):=by
 have hv0:=hv;obtain⟨sch,usr,pas,hh,hst,prt,opq,a,c,xs,hq,hf,qry,frg,rfl,hu,hx⟩:=hv.form;rw[text_parts]at hT⊢;have hA:=Ih (fun(V:World) (hb:Below w.heap.size w V)=>at08_any _ u V (hv0.below hb) (hE.below hb) hp0 hp1 hH);obtain⟨AT,hAT⟩:∃AT,Lz.atU u=AT:=⟨_,rfl⟩;rw[hAT]at hA;obtain⟨PH,hPH⟩:∃PH,PH=partsH u:=⟨_,rfl⟩;have hPH2:PH=(if hh then[47,47]++usr.data.toList++(if pas.data.toList=[]then[]else[58]++pas.data.toList)++(if usr.data.toList=[]/\pas.data.toList=[]then[]else[64])++AT else if opq=false/\1<xs.length/\xs.head?.map (fun x:ByteArray=>x.data.toList)=some []then[47,46]else[]):=by rw[hPH,<-hAT,hu];simp[partsH,List.head?_map]
 have hPP:partsP u.opq u.path=partsP opq (xs.map fun x:ByteArray=>x.data.toList):=by rw[hu]
 rw[<-hPH,hPP]at hT⊢;have e1:u.scheme=sch.data.toList:=by rw[hu]
 have e2:u.hasQuery=hq:=by rw[hu]
 have e3:u.query=qry.data.toList:=by rw[hu]
 have e4:u.hasFragment=hf:=by rw[hu]
 have e5:u.fragment=frg.data.toList:=by rw[hu]
 have e6:u.path.length=xs.length:=by rw[hu];simp
 rw[e1,e2,e3,e4,e5]at hT⊢;rw[e6]at hN;obtain⟨PP,hPPd⟩:∃PP,PP=partsP opq (xs.map fun x:ByteArray=>x.data.toList):=⟨_,rfl⟩;rw[<-hPPd]at hT⊢;obtain⟨goal,hg⟩:∃goal,goal=sch.data.toList++[58]++PH++PP++(if hq then 63::qry.data.toList else[])++(if hf then 35::frg.data.toList else[]):=⟨_,rfl⟩;rw[<-hg]at hT⊢;have HG:=Ih hg;have HPP:=Ih hPPd
 have hsum:sch.size+1+PH.length+PP.length+(if hq then 1+qry.size else 0)+(if hf then 1+frg.size else 0)<=1000000000:=by
  rw[hg]at hT;simp only[List.length_append,List.length_cons,List.length_nil]at hT;rw[len_of_size]at hT;have h1:(if hq then 63::qry.data.toList else[]).length=(if hq then 1+qry.size else 0):=by split<;>simp<;>first |rfl|omega
  have h2:(if hf then 35::frg.data.toList else[]).length=(if hf then 1+frg.size else 0):=by split<;>simp<;>first |rfl|omega
  omega
 have hc0:sch.size+1<=1000000000:=by omega
 have hcH:sch.size+1+PH.length<=1000000000:=by omega
 have hcP:sch.size+1+PH.length+PP.length<=1000000000:=by omega
 have HSum:=Ih hsum;clear hAT;obtain⟨W,hW⟩:∃W,W=w.alloc (.cells #[.string sch,.string usr,.string pas,.bool hh,.string hst,.int .i64 prt,.bool opq,.slice a xs.length c,.bool hq,.bool hf,.string qry,.string frg] 25):=⟨_,rfl⟩;have hbW:Below w.heap.size w W:=by rw[hW];exact(Below.refl _ w).alloc (Nat.le_refl _) _
 have hWs:W.heap.size=w.heap.size+1:=by rw[hW];simp
 have hR:W.heap[w.heap.size]? =some (.cells #[.string sch,.string usr,.string pas,.bool hh,.string hst,.int .i64 prt,.bool opq,.slice a xs.length c,.bool hq,.bool hf,.string qry,.string frg] 25 (0,0)):=by rw[hW];exact heap_new _ _
 have hrow:∀V,Below W.heap.size W V->V.heap[w.heap.size]? =some (.cells #[.string sch,.string usr,.string pas,.bool hh,.string hst,.int .i64 prt,.bool opq,.slice a xs.length c,.bool hq,.bool hf,.string qry,.string frg] 25 (0,0)):=fun V hb=>(hb.block _ (by rw[hWs];omega)).trans hR;have hbel:∀V,Below W.heap.size W V->Below w.heap.size w V:=fun V hb=>hbW.trans (hb.mono (by omega));have HW:=Ih hW;have Hrow:=Ih hrow;have HX:Hid (∀(j:Nat) (x:ByteArray),xs[j]? =some x->∃G o,a=some ⟨G,o,none⟩/\G<w.heap.size/\w.cell? ⟨G,o+j,none⟩=some (.string x)):=Ih hx;have Hbel:=Ih hbel;obtain⟨eP,hEP⟩:∃e,pas.toList.isEmpty=e:=⟨_,rfl⟩;obtain⟨eU,hEU⟩:∃e,usr.toList.isEmpty=e:=⟨_,rfl⟩;have HEP:Hid (eP=decide (pas.data.toList=[])):=by show _=_;rw[<-hEP];exact emp_dec pas
 have HEU:Hid (eU=decide (usr.data.toList=[])):=by show _=_;rw[<-hEU];exact emp_dec usr
 have hPH3:PH=if hh then[47,47]++(usr.data.toList++(if eP then[]else[58]++pas.data.toList)++(if eU&&eP then[]else[64]))++AT else if opq=false/\1<xs.length/\xs.head?.map (fun x:ByteArray=>x.data.toList)=some []then[47,46]else[]:=by
  rw[hPH2,HEP.out,HEU.out];simp
 have HPH:=Ih hPH3;have p0:=rowAt hR 0 (.string sch) rfl;have p3:=rowAt hR 3 (.bool hh) rfl;have n0:¬(9223372036854775807<sch.size+1):=by omega
 have hBW:=Below.refl W.heap.size W;clear hW hR hrow hbel hx hv hv0 hu hPH hPH2 hPH3 hPP e1 e2 e3 e4 e5 e6 hPPd hg hsum hT hE hp0 hp1 hH;go_enter Tryz.func10,Tryz.ntmps10
 go_upto_if 10 with(rw[<-HW.out])
 go_cut [3] (fun s wx=>∃t:ByteArray,s=.string t/\Hid (t.data.toList=sch.data.toList++[58]++(if hh then PH else[]))/\Below W.heap.size W wx)
 case first=>
  cases hh with
  | false=>
    go_wp2_with fail
    go_meet;exact⟨_,rfl,Ih (by rw[append_data'];simp),hBW⟩
  | true=>
    have HPH2:Hid (PH=[47,47]++(usr.data.toList++(if eP then[]else[58]++pas.data.toList)++(if eU&&eP then[]else[64]))++AT):=Ih HPH.out;have hr1:=Hrow.out W hBW;have p1:=rowAt hr1 1 (.string usr) rfl;have p2:=rowAt hr1 2 (.string pas) rfl;obtain⟨L1,hL1⟩:∃L1,L1=usr.data.toList++(if eP then[]else[58]++pas.data.toList):=⟨_,rfl⟩;rw[<-hL1]at HPH2
    have hlen:2+L1.length+(if eU&&eP then 0 else 1)+AT.length=PH.length:=by
     rw[HPH2.out];have h2:(if(eU&&eP)=true then([]:List UInt8)else[64]).length=(if(eU&&eP)=true then 0 else 1):=by split<;>simp
     simp only[List.length_append,h2,List.length_cons,List.length_nil];omega
    have hl1:L1.length<=1000000000:=by omega
    have hl1u:usr.size+(if eP then 0 else 1+pas.size)=L1.length:=by
     rw[hL1,List.length_append,len_of_size];cases eP<;>simp<;>first |rfl|omega
    have HL1:=Ih hL1;have Hlen:=Ih hlen;have Hl1u:=Ih hl1u;clear hL1 hlen hl1u HPH
    go_upto_if 15 with fail
    go_cut [4] (fun s wx=>∃t:ByteArray,s=.string t/\Hid (t.data.toList=L1)/\W=wx)
    case first=>
     cases eP with
     | true=>
       go_wp2_with fail
       go_meet;exact⟨_,rfl,Ih (by rw[HL1.out];simp),rfl⟩
     | false=>
       have h1:usr.size+(1+pas.size)<=1000000000:=by have:=Hl1u.out;simp at this;omega
       have n1:¬(9223372036854775807<usr.size+1):=by omega
       have n2:¬(9223372036854775807<usr.size+1+pas.size):=by omega
       clear h1
       go_wp2_with fail
       go_meet;exact⟨_,rfl,Ih (by rw[HL1.out,append_data',append_data'];simp),rfl⟩
    case rest=>
    obtain⟨t1,rfl,ht1,rfl⟩:=hcut
    have he1:t1.toList.isEmpty=(eU&&eP):=by
     rw[emp_dec,ht1.out,HL1.out,HEU.out,HEP.out];by_cases h:pas.data.toList=[]
     ·rw[h];simp
     ·rw[decide_eq_false h];simp
    obtain⟨e7,he7⟩:∃e7,e7=(eU&&eP):=⟨_,rfl⟩;rw[<-he7]at he1 HPH2 Hlen;have hs1:=cat_len ht1.out;have hs2:t1.size<=1000000000:=by omega
    have n1:¬(9223372036854775807<t1.size+1):=by omega
    clear HL1 Hl1u he7 p1 p2
    go_upto_if 22 with fail
    go_cut [4] (fun s wx=>∃t:ByteArray,s=.string t/\Hid (t.data.toList=L1++(if e7 then[]else[64]))/\W=wx)
    case first=>
     cases e7 with
     | true=>
       go_wp2_with fail
       go_meet;exact⟨_,rfl,Ih (by rw[ht1.out];simp),rfl⟩
     | false=>
       go_wp2_with fail
       go_meet;exact⟨_,rfl,Ih (by rw[append_data',ht1.out];simp),rfl⟩
    case rest=>
    obtain⟨t2,rfl,ht2,rfl⟩:=hcut;have hs3:=cat_len ht2.out;have hs4:t2.size=L1.length+(if e7 then 0 else 1):=by rw[hs3,List.length_append];cases e7<;>simp
    have hs5:sch.size+1+(2+t2.size+AT.length)<=1000000000:=by have:=Hlen.out;rw[hs4];omega
    have n3:¬(9223372036854775807<sch.size+1+2):=by omega
    have n4:¬(9223372036854775807<sch.size+1+2+t2.size):=by omega
    have Hr:=Ih hr1;have cA:=Ih (hA.out W hbW);clear hs1 hs2 hs3 hs4 ht1 he1 n1 hr1
    go_wp2_with (refine wpList_load_row rfl 25 (.tmp 1) rfl w.heap.size rfl 25 _ (0,0) _ Hr.out Tryz.underlying25 rfl urlSize ?_)
    refine cA.out.mono ?_;rintro e w5 ⟨t,rfl,ht,hb5⟩;have hts:t.size=AT.length:=cat_len ht.out;have n5:¬(9223372036854775807<sch.size+1+2+t2.size+t.size):=by omega
    go_wp2_with fail
    go_meet;refine⟨_,rfl,Ih ?_,hb5⟩;rw[append_data',append_data',append_data',append_data',ht.out,ht2.out];simp only[if_true];rw[HPH2.out]
    simp
 case rest=>
 obtain⟨t1,rfl,ht1,hb1⟩:=hcut;have hr1:=Hrow.out wc hb1;have hww:=Hbel.out wc hb1;have p6:=rowAt hr1 6 (.bool opq) rfl;have p7:=rowAt hr1 7 (.slice a xs.length c) rfl;have p3:=rowAt hr1 3 (.bool hh) rfl
 have HX2:Hid (∀(j:Nat) (x:ByteArray),xs[j]? =some x->∃G o,a=some ⟨G,o,none⟩/\wc.cell? ⟨G,o+j,none⟩=some (.string x)):=Ih (fun j x hj=>by
  obtain⟨G,o,e,hG,hc⟩:=HX.out j x hj;exact⟨G,o,e,by rw[hww.cell (p:=⟨G,o+j,none⟩) hG];exact hc⟩)
 have hs1:t1.size<=sch.size+1+PH.length:=by
  rw[cat_len ht1.out];simp only[List.length_append,len_of_size,List.length_cons,List.length_nil];cases hh<;>simp<;>omega
 clear HX hr1 hww hA HW n0 p0 hBW hbW;obtain⟨q9,hq9⟩:∃q,q=(opq&&decide (0<xs.length)):=⟨_,rfl⟩;have H9:=Ih hq9;clear hq9
 go_upto_region 9 with fail
 go_cut [39] (fun s wx=>s=.bool q9/\wc=wx)
 case first=>
  cases opq with
  | false=>
    go_wp2_with fail
    go_meet;exact⟨by rw[H9.out];rfl,rfl⟩
  | true=>
    by_cases h0:0<xs.length
    ·have h0I:(0:Int)<(xs.length:Int):=by omega
     have hd:decide (0<xs.length)=true:=decide_eq_true h0;clear h0
     go_wp2_with fail
     go_meet;exact⟨by rw[H9.out,hd];rfl,rfl⟩
    ·have h0I:¬(0:Int)<(xs.length:Int):=by omega
     have hd:decide (0<xs.length)=false:=decide_eq_false h0;clear h0
     go_wp2_with fail
     go_meet;exact⟨by rw[H9.out,hd];rfl,rfl⟩
 case rest=>
 obtain⟨rfl,rfl⟩:=hcut
 have HQ:Hid (opq=true->0<xs.length->∃x0,xs[0]? =some x0/\PP=x0.data.toList):=Ih (fun ho h0=>by
  refine⟨xs[0],List.getElem?_eq_getElem h0,?_⟩;rw[HPP.out,ho]
  match xs,h0 with
  | x::r,_=>rfl)
 have HQ0:Hid (opq=true->¬0<xs.length->PP=[]):=Ih (fun ho h0=>by
  rw[HPP.out,ho,List.length_eq_zero_iff.1 (Nat.eq_zero_of_not_pos h0)];rfl)
 go_upto_if 39 with fail
 go_cut [3] (fun s wx=>∃t:ByteArray,s=.string t/\Hid (t.data.toList=t1.data.toList++(if opq then PP else[]))/\wc=wx)
 case first=>
  cases opq with
  | false=>
    obtain rfl:q9=false:=H9.out
    go_wp2_with fail
    go_meet;exact⟨_,rfl,Ih (by simp),rfl⟩
  | true=>
    by_cases h0:0<xs.length
    ·have hd:decide (0<xs.length)=true:=decide_eq_true h0;have h0I:(0:Int)<(xs.length:Int):=by omega
     obtain⟨x0,hx0,hP0⟩:=HQ.out rfl h0;obtain⟨G,o,rfl,hc0⟩:=HX2.out 0 x0 hx0;have hc00:wc.cell? ⟨G,o,none⟩=some (.string x0):=hc0;have hs0:x0.size=PP.length:=by rw[hP0,len_of_size]
     have n1:¬(9223372036854775807<t1.size+x0.size):=by omega
     have HP0:=Ih hP0;obtain rfl:q9=true:=by rw[H9.out,hd];rfl
     clear h0 hd hx0 hP0 hc0 hs0
     go_wp2_with fail
     go_meet;exact⟨_,rfl,Ih (by rw[append_data',HP0.out];rfl),rfl⟩
    ·have hd:decide (0<xs.length)=false:=decide_eq_false h0;have HP0:=Ih (HQ0.out rfl h0);obtain rfl:q9=false:=by rw[H9.out,hd];rfl
     clear h0 hd
     go_wp2_with fail
     go_meet;exact⟨_,rfl,Ih (by rw[HP0.out];simp),rfl⟩
 case rest=>
 obtain⟨t2,rfl,ht2,rfl⟩:=hcut;clear HQ HQ0
 go_upto_if 48 with fail
 go_cut [3] (fun s wx=>∃t:ByteArray,s=.string t/\Hid (t.data.toList=sch.data.toList++[58]++PH++PP)/\wc=wx)
 case first=>
  cases opq with
  | true=>
    have HF:Hid (t2.data.toList=sch.data.toList++[58]++PH++PP):=by
     show _=_;rw[ht2.out,ht1.out,HPH.out];cases hh<;>simp
    go_wp2_with fail
    go_meet;exact⟨_,rfl,HF,rfl⟩
  | false=>
    have hs2:t2.size=t1.size:=by rw[cat_len ht2.out];simp
    obtain⟨q,hq12⟩:∃q,q=(!hh&&decide (1<xs.length/\xs.head?.map (fun x:ByteArray=>x.data.toList)=some [])):=⟨_,rfl⟩;have HQ:=Ih hq12
    have HF:Hid (t2.data.toList++(if q then[47,46]else[])=sch.data.toList++[58]++PH):=by
     show _=_;rw[ht2.out,ht1.out,HPH.out,hq12];cases hh<;>simp
    have hqs:t2.size+(if q then 2 else 0)=sch.size+1+PH.length:=by
     have:=congrArg List.length HF.out;simp only[List.length_append,len_of_size,List.length_cons,List.length_nil]at this;rw[<-this];cases q<;>simp
    clear hq12 hs1
    go_upto_region 12 with fail
    go_cut [64] (fun s wx=>s=.bool q/\wc=wx)
    case first=>
     cases hh with
     | true=>
       have HQ2:Hid (q=false):=Ih HQ.out
       go_wp2_with fail
       go_meet;exact⟨by rw[HQ2.out],rfl⟩
     | false=>
       by_cases h1:1<xs.length
       ·have h1I:(1:Int)<(xs.length:Int):=by omega
        have h0I:(0:Int)<(xs.length:Int):=by omega
        obtain⟨x0,hx0⟩:∃x0,xs[0]? =some x0:=⟨_,List.getElem?_eq_getElem (by omega)⟩;obtain⟨G1,o1,rfl,hc1⟩:=HX2.out 0 x0 hx0;have d1:wc.cell? ⟨G1,o1,none⟩=some (.string x0):=hc1;obtain⟨e0,he0⟩:∃e,x0.toList.isEmpty=e:=⟨_,rfl⟩
        have HQ2:Hid (q=e0):=by
         show _=_;rw[HQ.out,<-he0,emp_dec,List.head?_eq_getElem?,hx0]
         simp[h1]
        clear hx0 hc1 h1 HQ
        go_wp2_with fail
        go_meet;exact⟨by rw[HQ2.out],rfl⟩
       ·have h1I:¬(1:Int)<(xs.length:Int):=by omega
        have HQ2:Hid (q=false):=by show _=_;rw[HQ.out];simp[h1]
        clear h1 HQ
        go_wp2_with fail
        go_meet;exact⟨by rw[HQ2.out],rfl⟩
    case rest=>
    obtain⟨rfl,rfl⟩:=hcut;clear HQ
    go_upto_if 64 with fail
    go_cut [3] (fun s wx=>∃t:ByteArray,s=.string t/\Hid (t.data.toList=sch.data.toList++[58]++PH)/\wc=wx)
    case first=>
     cases q with
     | true=>
       have n1:¬(9223372036854775807<t2.size+2):=by simp at hqs;omega
       go_wp2_with fail
       go_meet;exact⟨_,rfl,Ih (by rw[<-HF.out,append_data'];rfl),rfl⟩
     | false=>
       go_wp2_with fail
       go_meet;exact⟨_,rfl,Ih (by rw[<-HF.out];simp),rfl⟩
    case rest=>
    obtain⟨t3,rfl,ht3,rfl⟩:=hcut;have hl3:(sch.data.toList++[58]++PH).length=sch.size+1+PH.length:=by rw[List.length_append,List.length_append,len_of_size];rfl
    generalize hLL:sch.data.toList++[58]++PH=L at ht3 hl3;have HLL:=Ih hLL;clear hLL;clear HF hqs hs2 ht2 ht1 p3;by_cases h0:xs.length=0
    ·have h0I:¬(0:Int)<(xs.length:Int):=by omega
     have HP2:Hid (PP=[]):=by
      show _=_;rw[HPP.out,List.length_eq_zero_iff.1 h0];rfl
     clear h0
     go_wp2_with fail
     refine wp_loop_rounds 1 ?_;rw[rounds_succ]
     go_wp2_with fail
     go_meet;exact⟨_,rfl,Ih (by rw[HP2.out,List.append_nil,HLL.out];exact ht3.out),rfl⟩
    ·obtain⟨G1,o1,rfl,hc1⟩:=HX2.out 0 xs[0] (List.getElem?_eq_getElem (by omega));clear hc1
     have HX3:Hid (∀(j:Nat) (x:ByteArray),xs[j]? =some x->wc.cell? ⟨G1,o1+j,none⟩=some (.string x)):=Ih (fun j x hj=>by
      obtain⟨G,o,e,hc⟩:=HX2.out j x hj;injection e with e;injection e with e1 e2 _
      subst e1;subst e2;exact hc)
     clear h0 HX2
     go_wp2_with fail
     go_loopw [3,5] (fun v k wr=>∃(t:ByteArray) (i:Nat),v=.string t/\k=.int .i64 i/\i<=xs.length/\Hid (t.data.toList=L++partsP false ((xs.map fun x:ByteArray=>x.data.toList).take i))/\wc=wr) (fun _ k _=>xs.length-(intOf k).toNat)
     case atStart=>exact⟨t3,0,rfl,rfl,Nat.zero_le _,Ih (by rw[List.take_zero];simpa [partsP]using ht3.out),rfl⟩
     case round=>
      obtain⟨t,i,rfl,rfl,hi,hT,rfl⟩:=hrel;by_cases hlt:i<xs.length
      ·have hltI:(i:Int)<(xs.length:Int):=by omega
       have hi0:(0:Int)<=(i:Int):=by omega
       obtain⟨x,hx⟩:∃x,x=xs[i]:=⟨_,rfl⟩;have hxg:xs[i]? =some x:=by rw[List.getElem?_eq_getElem hlt,hx]
       have d1:=HX3.out i x hxg;have hxm:(xs.map fun x:ByteArray=>x.data.toList)[i]'(by simpa using hlt)=x.data.toList:=by simp[hx]
       have hPl:(partsP false ((xs.map fun x:ByteArray=>x.data.toList).take (i+1))).length<=PP.length:=by rw[HPP.out];exact partsP_le _ _ _
       have hst:partsP false ((xs.map fun x:ByteArray=>x.data.toList).take (i+1))=partsP false ((xs.map fun x:ByteArray=>x.data.toList).take i)++[47]++x.data.toList:=by rw[partsP_step (by simpa using hlt),hxm]
       have hln:t.size+1+x.size<=2000000000:=by
        rw[cat_len hT.out];rw[hst]at hPl;simp only[List.length_append,List.length_cons,List.length_nil,len_of_size]at hPl⊢;rw[hl3];omega
       have n1:¬(9223372036854775807<t.size+1):=by omega
       have n2:¬(9223372036854775807<t.size+1+x.size):=by omega
       have HST:Hid (t.data.toList++[47]++x.data.toList=L++partsP false ((xs.map fun x:ByteArray=>x.data.toList).take (i+1))):=by
        show _=_;rw[hst,hT.out];simp
       clear hst hPl hxm hln hT hx hxg
       go_wp2_with fail
       go_roundw
       case rel=>exact⟨t++⟨#[47]⟩++x,i+1,rfl,by go_num,by omega,Ih (by rw[append_data',append_data'];exact HST.out),by first |rfl|trivial⟩
       case measure=>simp[intOf];omega
      ·have hltI:¬(i:Int)<(xs.length:Int):=by omega
       have HT:Hid (t.data.toList=L++PP):=by
        show _=_;rw[hT.out,List.take_of_length_le (by simp;omega),<-HPP.out]
       clear hT
       go_wp2_with fail
       go_meet;exact⟨_,rfl,Ih (by rw[HLL.out];exact HT.out),by first |rfl|trivial⟩
 case rest=>
 obtain⟨t3,rfl,ht3,rfl⟩:=hcut
 have hs3:t3.size=sch.size+1+PH.length+PP.length:=by
  rw[cat_len ht3.out];simp only[List.length_append,len_of_size,List.length_cons,List.length_nil]
 generalize hLP:sch.data.toList++[58]++PH++PP=LP at ht3 HG;have hr3:=Hrow.out wc hb1;have p8:=rowAt hr3 8 (.bool hq) rfl;have p9:=rowAt hr3 9 (.bool hf) rfl;have p10:=rowAt hr3 10 (.string qry) rfl;have p11:=rowAt hr3 11 (.string frg) rfl;have Hfin:=Ih (Hbel.out wc hb1);clear hLP hs1 ht1 ht2 HX2 p6 p7 hr3 HPH HPP p3
 go_upto_if 83 with fail
 go_cut [3] (fun s wx=>∃t:ByteArray,s=.string t/\Hid (t.data.toList=LP++(if hq then 63::qry.data.toList else[]))/\wc=wx)
 case first=>
  cases hq with
  | true=>
    have hS:=HSum.out;simp only[if_true]at hS;have n1:¬(9223372036854775807<t3.size+1):=by omega
    have n2:¬(9223372036854775807<t3.size+1+qry.size):=by omega
    clear hS
    go_wp2_with fail
    go_meet;exact⟨_,rfl,Ih (by rw[append_data',append_data',ht3.out];simp),rfl⟩
  | false=>
    go_wp2_with fail
    go_meet;exact⟨_,rfl,Ih (by rw[ht3.out];simp),rfl⟩
 case rest=>
 obtain⟨t4,rfl,ht4,rfl⟩:=hcut
 have hs4:t4.size+(if hf then 1+frg.size else 0)<=1000000000:=by
  have hS:=HSum.out
  have:t4.size=t3.size+(if hq then 1+qry.size else 0):=by
   rw[cat_len ht4.out,List.length_append,<-ht3.out,len_of_size];cases hq<;>simp<;>first |rfl|omega
  omega
 clear HSum hcH hcP hs3 ht3 p8 p10;cases hf with
 | true=>
   simp only[if_true]at hs4;have n1:¬(9223372036854775807<t4.size+1):=by omega
   have n2:¬(9223372036854775807<t4.size+1+frg.size):=by omega
   go_wp2_with fail
   go_ret;refine⟨_,rfl,Ih ?_,Hfin.out⟩;rw[HG.out,append_data',append_data',ht4.out]
   simp
 | false=>
   go_wp2_with fail
   go_ret;refine⟨_,rfl,Ih ?_,Hfin.out⟩;rw[HG.out,ht4.out]
   simp
end Go.Proofs.YtipndhbgehdeoaaGreatDoor
namespace Lz
open Go
def noL:Bs:=[0,9,10,13,32,35,47,58,60,62,63,64,91,93,94,124]
theorem banned_no:∀c:UInt8,banned.contains c=(noL.contains c||c==92):=byte_all (by decide +kernel)
theorem contains_at {l:Bs} {i:Nat} {d c:UInt8} (h:l[i]? =some d):(l.drop i).contains c=(d==c||(l.drop (i+1)).contains c):=by
 have hl:=(List.getElem?_eq_some_iff.1 h).1;have he:=(List.getElem?_eq_some_iff.1 h).2;rw[List.drop_eq_getElem_cons hl,he,List.contains_cons];congr 1;exact Bool.beq_comm
theorem low_48:∀c:UInt8,(low1 c=48↔c=48)/\(low1 c=120↔(c=120\/c=88)):=byte_all (by decide +kernel)
theorem hexV_low:∀c:UInt8,hexV (low1 c)=hexV c:=byte_all (by decide +kernel)
theorem numF_low (b:Nat):∀(t:Bs) (n:Nat),numF b n (low t)=numF b n t
 | [],_=>rfl
 | c::r,n=>by
   have e:low (c::r)=low1 c::low r:=rfl;rw[e];unfold numF;rw[hexV_low];cases hexV c with
   | none=>rfl
   | some d=>
     simp only;split
     ·rfl
     ·exact numF_low b r _
theorem num_x {c0 c1:UInt8} {r:Bs} (h0:c0=48) (h1:c1=120\/c1=88):numP (c0::c1::r)=numF 16 0 r:=by
 have e:low (c0::c1::r)=48::120::low r:=by
  show low1 c0::low1 c1::low r=_;rw[(low_48 c0).1.2 h0,(low_48 c1).2.2 h1]
 unfold numP;rw[e,if_pos (by rfl)];show numF 16 0 (48::low r)=_;rw[show numF 16 0 (48::low r)=numF 16 0 (low r)from rfl,numF_low]
theorem num_8 {c0 c1:UInt8} {r:Bs} (h0:c0=48) (h1:¬(c1=120\/c1=88)):numP (c0::c1::r)=numF 8 0 (c1::r):=by
 have e:Lib.hasPrefix (low (c0::c1::r)) [48,120]=false:=by
  show Lib.hasPrefix (low1 c0::low1 c1::low r) [48,120]=false;have:low1 c1≠120:=fun h=>h1 ((low_48 c1).2.1 h)
  simp[Lib.hasPrefix,List.isPrefixOf]
  intro _ h;exact this h.symm
 unfold numP;rw[e,if_neg (by simp),if_pos ⟨by simp,by simp[h0]⟩];rfl
theorem num_10 {s:Bs} (h:s.length<2\/s[0]? ≠some 48):numP s=if s=[]then none else numF 10 0 s:=by
 have e:Lib.hasPrefix (low s) [48,120]=false:=by
  match s,h with
  | [],_=>rfl
  | [a],_=>
    show Lib.hasPrefix [low1 a] [48,120]=false
    simp[Lib.hasPrefix,List.isPrefixOf]
  | a::b::r,h=>
    show Lib.hasPrefix (low1 a::low1 b::low r) [48,120]=false
    have ha:a≠48:=by
     rcases h with h|h
     ·exfalso;simp only[List.length_cons]at h;omega
     ·simpa using h
    have:low1 a≠48:=fun h=>ha ((low_48 a).1.1 h)
    simp[Lib.hasPrefix,List.isPrefixOf]
    intro h;exact absurd h.symm this
 unfold numP;rw[e,if_neg (by simp),if_neg (fun hh=>by rcases h with h|h;omega;exact h hh.2)]
end Lz
namespace Go.Proofs.YtipndhbgehdeoaaGreatDoor
open Go.RowKit
theorem no07_any (c:UInt8) (w:World):Calls Tryz.prog 68 #[.int .u8 (c.toNat:Int)] w fun e w'=>e=.returned (.bool (Lz.banned.contains c))/\w=w':=by
 obtain⟨goal,hg⟩:∃goal,goal=Lz.banned.contains c:=⟨_,rfl⟩;have HG:Hid (goal=(Lz.noL.contains c||c==92)):=Ih (by rw[hg,Lz.banned_no]);rw[<-hg];clear hg;have e92:((c.toNat:Int)==92)=(c==92):=beqU c 92;go_enter Tryz.func68,Tryz.ntmps68
 go_upto_region 1 with fail
 go_cut [3] (fun s wx=>∃t:ByteArray,s=.string t/\t.size=16/\Hid (t.data.toList=Lz.noL)/\w=wx)
 case first=>
  go_wp2_with fail
  go_meet;exact⟨_,rfl,rfl,Ih rfl,rfl⟩
 case rest=>
 obtain⟨t,rfl,ht,HT,rfl⟩:=hcut
 go_wp2_with fail
 go_loopw [4] (fun j wr=>∃(i:Nat),j=.int .i64 i/\i<=16/\Hid (goal=((Lz.noL.drop i).contains c||c==92))/\w=wr) (fun j _=>16-(intOf j).toNat)
 case atStart=>exact⟨0,rfl,Nat.zero_le _,HG,rfl⟩
 case round=>
  obtain⟨i,rfl,hi,HR,rfl⟩:=hrel;by_cases hlt:i<t.size
  ·have hltI:(i:Int)<(t.size:Int):=by omega
   have hi0:(0:Int)<=(i:Int):=by omega
   obtain⟨d,hd⟩:∃d,d=t[i]:=⟨_,rfl⟩;have hdI:(t[i].toNat:Int)=(d.toNat:Int):=by rw[hd]
   have hdg:Lz.noL[i]? =some d:=by rw[<-HT.out,get_of_lt hlt,hd]
   have hq:=beqU d c;obtain⟨q,hqd⟩:∃q,q=(d==c):=⟨_,rfl⟩;rw[<-hqd]at hq;have hst:=Lz.contains_at (c:=c) hdg;rw[<-hqd]at hst;cases q with
   | true=>
     have HN:Hid (goal=true):=Ih (by rw[HR.out,hst];simp);clear hd hdg hqd hst HR HG
     go_wp2_with fail
     go_ret;exact⟨by rw[HN.out];rfl,rfl⟩
   | false=>
     have HN:Hid (goal=((Lz.noL.drop (i+1)).contains c||c==92)):=Ih (by rw[HR.out,hst];simp);clear hd hdg hqd hst HR HG
     go_wp2_with fail
     go_roundw
     case rel=>exact⟨i+1,by go_num,by omega,HN,by first |rfl|trivial⟩
     case measure=>simp[intOf];omega
  ·have hltI:¬(i:Int)<(t.size:Int):=by omega
   have HN:Hid (goal=(c==92)):=Ih (by rw[HR.out,List.drop_eq_nil_of_le (by simp[Lz.noL];omega)];rfl);clear HR HG
   go_wp2_with fail
   go_ret;exact⟨by rw[HN.out];rfl,rfl⟩
theorem head_two {s:ByteArray} (h:2<=s.size):s.data.toList=s[0]::s[1]::s.data.toList.drop 2:=by
 have h0:0<s.data.toList.length:=by rw[len_of_size];omega
 have h1:1<s.data.toList.length:=by rw[len_of_size];omega
 have e0:=List.drop_eq_getElem_cons (l:=s.data.toList) (i:=0) h0;have e1:=List.drop_eq_getElem_cons (l:=s.data.toList) (i:=1) h1;rw[List.drop_zero]at e0
 conv=>lhs;rw[e0,e1]
 rfl
theorem num10_any (s:ByteArray) (hs:s.size<=1048576) (w:World) (h:Hid (Lz.numP s.data.toList=if s.data.toList=[]then none else Lz.numF 10 0 s.data.toList)) (hw:s.size<2\/∃h:2<=s.size,((s[0].toNat:Int)==48)=false):
  Calls Tryz.prog 106 #[.string s] w (RDig (Lz.numP s.data.toList) w):=by
 have cD:=digits07_any s 10 (by omega) hs w;obtain⟨o,ho⟩:∃o,o=Lz.numF 10 0 s.data.toList:=⟨_,rfl⟩;rw[<-ho]at cD;obtain⟨p,hp⟩:∃p,p=Lz.numP s.data.toList:=⟨_,rfl⟩;obtain⟨e,he⟩:∃e,s.toList.isEmpty=e:=⟨_,rfl⟩
 have HR:Hid (RDig p w (.returned (.tuple #[.int .i64 ((o.getD 0:Nat):Int),.bool (o.isSome&& !e)])) w):=by
  refine⟨?_,rfl⟩;rw[hp,h.out,<-he,emp_dec];by_cases hz:s.data.toList=[]
  ·rw[if_pos hz,decide_eq_true hz];rw[ho,hz];rfl
  ·rw[if_neg hz,decide_eq_false hz,<-ho];simp
 rw[<-hp];have CD:=Ih cD;obtain⟨n,hn⟩:∃n,n=o.getD 0:=⟨_,rfl⟩;obtain⟨k,hk⟩:∃k,k=o.isSome:=⟨_,rfl⟩
 have hCD:Hid (Calls Tryz.prog 105 #[.string s,.int .i64 10] w fun e w'=>e=.returned (.tuple #[.int .i64 (n:Int),.bool k])/\w=w'):=by
  show Calls _ _ _ _ _;rw[hn,hk];exact CD.out
 rw[<-hn,<-hk]at HR;clear cD CD h hp ho hn hk;rcases hw with hz|⟨hz,hq⟩
 ·have hzI:¬(2:Int)<=(s.size:Int):=by omega
  have hzI2:(s.size:Int)<2:=by omega
  go_enter Tryz.func106,Tryz.ntmps106
  go_wp2_with fail
  refine hCD.out.mono ?_;rintro _ w1 ⟨rfl,rfl⟩;cases k<;>(go_wp2_with fail)<;>go_ret2<;>exact HR.out
 ·have hzI:(2:Int)<=(s.size:Int):=by omega
  have hz0:(0:Int)<(s.size:Int):=by omega
  go_enter Tryz.func106,Tryz.ntmps106
  go_wp2_with fail
  refine hCD.out.mono ?_;rintro _ w1 ⟨rfl,rfl⟩;cases k<;>(go_wp2_with fail)<;>go_ret2<;>exact HR.out
theorem Number07_any (s:ByteArray) (hs:s.size<=1048576) (w:World):Calls Tryz.prog 106 #[.string s] w (RDig (Lz.numP s.data.toList) w):=by
 by_cases hz:s.size<2
 ·exact num10_any s hs w (Ih (Lz.num_10 (.inl (by rw[len_of_size];exact hz)))) (.inl hz)
 ·have h2:2<=s.size:=by omega
  have hd:=head_two h2;have hb0:((s[0].toNat:Int)==48)=(s[0]==48):=beqU s[0] 48;by_cases h48:s[0]=48
  ·have hq0:((s[0].toNat:Int)==48)=true:=by rw[hb0,h48];rfl
   have hzI:(2:Int)<=(s.size:Int):=by omega
   have hz0:(0:Int)<(s.size:Int):=by omega
   have hz1:(1:Int)<(s.size:Int):=by omega
   have hz11:(1:Int)<=(s.size:Int):=by omega
   have hb1:((s[1].toNat:Int)==120)=(s[1]==120):=beqU s[1] 120;have hb2:((s[1].toNat:Int)==88)=(s[1]==88):=beqU s[1] 88;by_cases hx:s[1]=120\/s[1]=88
   ·have HP:Hid (Lz.numP s.data.toList=Lz.numF 16 0 (s.extract 2 s.size).data.toList):=Ih (by
     rw[extract_tail',hd,Lz.num_x h48 hx];rfl)
    have cD0:=digits07_any (s.extract 2 s.size) 16 (by omega) (Nat.le_trans (extract_size_le' _ _ _) hs) w;have hn1:s[1]≠120->s[1]=88:=fun h=>hx.resolve_left h;rw[HP.out];generalize Lz.numF 16 0 (s.extract 2 s.size).data.toList=o at cD0⊢;have cD:=Ih cD0;clear cD0;by_cases h120:s[1]=120
    ·have q1:((s[1].toNat:Int)==120)=true:=by rw[hb1,h120];rfl
     clear hd hb0 hb1 hb2 h48 hx h120 hn1;go_enter Tryz.func106,Tryz.ntmps106
     go_wp2_with fail
     refine cD.out.mono ?_;rintro _ w1 ⟨rfl,rfl⟩
     go_wp2_with fail
     go_ret2
     exact⟨rfl,rfl⟩
    ·have q1:((s[1].toNat:Int)==120)=false:=by rw[hb1];exact beq_eq_false_iff_ne.2 h120
     have q2:((s[1].toNat:Int)==88)=true:=by rw[hb2,hn1 h120];rfl
     clear hd hb0 hb1 hb2 h48 hx h120 hn1;go_enter Tryz.func106,Tryz.ntmps106
     go_wp2_with fail
     refine cD.out.mono ?_;rintro _ w1 ⟨rfl,rfl⟩
     go_wp2_with fail
     go_ret2
     exact⟨rfl,rfl⟩
   ·have HP:Hid (Lz.numP s.data.toList=Lz.numF 8 0 (s.extract 1 s.size).data.toList):=Ih (by
     rw[extract_tail',hd,Lz.num_8 h48 hx];rfl)
    have cD0:=digits07_any (s.extract 1 s.size) 8 (by omega) (Nat.le_trans (extract_size_le' _ _ _) hs) w;have q1:((s[1].toNat:Int)==120)=false:=by rw[hb1];exact beq_eq_false_iff_ne.2 (fun h=>hx (.inl h))
    have q2:((s[1].toNat:Int)==88)=false:=by rw[hb2];exact beq_eq_false_iff_ne.2 (fun h=>hx (.inr h))
    rw[HP.out];generalize Lz.numF 8 0 (s.extract 1 s.size).data.toList=o at cD0⊢;have cD:=Ih cD0;clear hd hb0 hb1 hb2 h48 hx cD0;go_enter Tryz.func106,Tryz.ntmps106
    go_wp2_with fail
    refine cD.out.mono ?_;rintro _ w1 ⟨rfl,rfl⟩
    go_wp2_with fail
    go_ret2
    exact⟨rfl,rfl⟩
  ·refine num10_any s hs w (Ih (Lz.num_10 (.inr ?_))) (.inr ⟨h2,?_⟩)
   ·rw[hd];simpa using h48
   ·rw[hb0];exact beq_eq_false_iff_ne.2 h48
end Go.Proofs.YtipndhbgehdeoaaGreatDoor
namespace Lz
open Go
theorem hexV_ten:∀c:UInt8,isDigit c=(match hexV c with|some d=>decide (d<10)|none=>false):=byte_all (by decide +kernel)
theorem numF_ten:∀(x:Bs) (n:Nat),(numF 10 n x).isSome=x.all isDigit
 | [],_=>rfl
 | c::r,n=>by
   rw[List.all_cons,hexV_ten c];unfold numF;cases hexV c with
   | none=>rfl
   | some d=>
     simp only;by_cases h:d<10
     ·rw[if_neg (by omega),numF_ten r,decide_eq_true h,Bool.true_and]
     ·rw[if_pos (by omega),decide_eq_false h,Bool.false_and];rfl
end Lz
namespace Go.Proofs.YtipndhbgehdeoaaGreatDoor
open Go.RowKit
theorem labels07_any (s:ByteArray) (hs:s.size<=1000000) (w:World):Calls Tryz.prog 72 #[.string s] w (RLabs (Lz.labelsP s.data.toList) s.size w):=by
 have cS:=Ih (Cut07_any s 46 (by omega) w);go_enter Tryz.func72,Tryz.ntmps72
 go_wp2_with fail
 refine(cS.out).mono ?_;rintro e w1 ⟨v1,xs,rfl,hxs,hown1,hb1⟩;have hsp:Hid (Lz.splitC 46 s.data.toList=xs.map (·.data.toList)):=Ih hxs.out.symm
 have hlen:xs.length<=s.size+1:=by
  have h:=Lz.splitC_len 46 s.data.toList;rw[<-hxs.out,List.length_map,len_of_size]at h;omega
 have hpos:1<=xs.length:=by
  have:=Lz.splitC_ne 46 s.data.toList;rw[<-hxs.out]at this;cases xs with
  | nil=>simp at this
  | cons _ _=>simp
 have hsz:∀x,x∈xs->x.size<=s.size:=fun x hx=>piece_size hxs.out hx;obtain⟨b1,cap1,rfl,hcap1,hT⟩:=texts_own hown1 hpos;obtain⟨x,hx⟩:∃x,xs[xs.length-1]? =some x:=⟨_,List.getElem?_eq_getElem (by omega)⟩;have hcx:=hT.cells _ _ hx;have hlast:xs.getLast? =some x:=by rw[List.getLast?_eq_getElem?];exact hx
 have HT:=Ih hT;have Hsz:=Ih hsz;have Hl:=Ih hlast;clear cS hown1 hxs hT hsz hx hlast;obtain⟨n,hn⟩:∃n,n=xs.length-1:=⟨_,rfl⟩;rw[<-hn]at hcx;have hn1:(xs.length:Int)-1=n:=by omega
 have hnl:n<xs.length:=by omega
 have hn2:(n:Int)<xs.length:=by omega
 have hn3:(n:Int)<=xs.length:=by omega
 have hn0:(0:Int)<=n:=by omega
 have Hn:=Ih hn;clear hn;by_cases h1:1<xs.length
 ·have hn4:(0:Int)<n:=by omega
  by_cases hz:x.size=0
  ·have he:=isEmpty_of_size hz
   have HD:Hid ((xs.take n).map (·.data.toList)=Lz.labelsP s.data.toList):=by
    show _=_;unfold Lz.labelsP
    rw[hsp.out,if_pos ⟨by simpa using h1,by
     rw[List.getLast?_map,Hl.out];show some x.data.toList=some [];rw[List.length_eq_zero_iff.1 (show x.data.toList.length=0 by rw[len_of_size];exact hz)]⟩]
    rw[List.dropLast_eq_take,List.length_map,List.map_take,Hn.out]
   clear hsp
   go_wp2
   go_ret;refine⟨xs.take n,b1,cap1,?_,by simp;omega,by simp;omega,by simp;omega,HD,fun y hy=>Hsz.out y (List.mem_of_mem_take hy),HT.out.take n,hb1⟩;rw[List.length_take,Nat.min_eq_left (by omega)];rfl
  ·have he:=isEmpty_of_pos (s:=x) (by omega)
   have HD:Hid (xs.map (·.data.toList)=Lz.labelsP s.data.toList):=by
    show _=_;unfold Lz.labelsP;rw[hsp.out,if_neg];rintro⟨_,h⟩;rw[List.getLast?_map,Hl.out]at h;have:x.data.toList=[]:=Option.some.inj h;exact hz (by rw[<-len_of_size,this];rfl)
   clear hsp
   go_wp2
   go_ret;exact⟨xs,b1,cap1,rfl,hcap1,hpos,hlen,HD,Hsz.out,HT.out,hb1⟩
 ·have hn4:¬(0:Int)<n:=by omega
  have HD:Hid (xs.map (·.data.toList)=Lz.labelsP s.data.toList):=by
   show _=_;unfold Lz.labelsP;rw[hsp.out,if_neg];rintro⟨h,_⟩;exact h1 (by simpa using h)
  clear hsp
  go_wp2
  go_ret;exact⟨xs,b1,cap1,rfl,hcap1,hpos,hlen,HD,Hsz.out,HT.out,hb1⟩
theorem numbered_at {s:List UInt8} {xs:List ByteArray} {x:ByteArray} (h:xs.map (·.data.toList)=Lz.labelsP s) (hx:xs[xs.length-1]? =some x):
  Lz.numberedP s=((Lz.numF 10 0 x.data.toList).isSome&& !x.toList.isEmpty||(Lz.numP x.data.toList).isSome):=by
 unfold Lz.numberedP;rw[labelsP_last h hx,Lz.numF_ten,emp_dec];congr 1;unfold Lz.allB;cases x.data.toList with
 | nil=>rfl
 | cons a r=>simp
theorem Ends07_any (s:ByteArray) (hs:s.size<=1000000) (w:World):Calls Tryz.prog 70 #[.string s] w (RBool (Lz.numberedP s.data.toList) w):=by
 have cL:=Ih (labels07_any s hs w);go_enter Tryz.func70,Tryz.ntmps70
 go_wp2_with fail
 refine(cL.out).mono ?_;rintro e w1 ⟨xs,b,cap,rfl,hcap,hpos,hlen,hls,hsz,hT,hb1⟩;obtain⟨x,hx⟩:∃x,xs[xs.length-1]? =some x:=⟨_,List.getElem?_eq_getElem (by omega)⟩;have hcx:=hT.cells _ _ hx;have hxz:=hsz x (List.mem_of_getElem? hx);have hN:=numbered_at hls.out hx;obtain⟨n,hn⟩:∃n,n=xs.length-1:=⟨_,rfl⟩;rw[<-hn]at hcx;have hn1:(xs.length:Int)-1=n:=by omega
 have hn2:(n:Int)<xs.length:=by omega
 have hn0:(0:Int)<=n:=by omega
 have cD:=digits07_any x 10 (by omega) (by omega) w1;have cN:=Number07_any x (by omega) w1;generalize Lz.numF 10 0 x.data.toList=o1 at cD hN;generalize Lz.numP x.data.toList=o2 at cN hN;obtain⟨e1,he1⟩:∃e,x.toList.isEmpty=e:=⟨_,rfl⟩;rw[he1]at hN;have HN:=Ih hN;have CD:=Ih cD;have CN:=Ih cN;clear hN cD cN hn hx hls hsz hT cL
 go_wp2_with fail
 refine CD.out.mono ?_;rintro _ w2 ⟨rfl,rfl⟩
 go_wp2_with fail
 refine CN.out.mono ?_;rintro _ w2 ⟨rfl,rfl⟩;cases o1<;>cases e1<;>cases o2<;>(go_wp2_with fail)<;>go_ret<;>exact⟨by rw[HN.out];rfl,hb1⟩
end Go.Proofs.YtipndhbgehdeoaaGreatDoor
namespace Lz
open Go
theorem allR_cons (n all:Nat) (s:Bs) (r:List Bs):allR n all (s::r)=match numP s with
  | none=>none
  | some v=>if(if r=[]then 256^(5-n)else 256)<=v then none else allR n (all*(if r=[]then 256^(5-n)else 256)+v) r:=by
 rw[allR];cases numP s<;>rfl
def preD (all:Nat):Nat->Bs
 | 0=>[]
 | m+1=>preD all m++Lib.decDigits (all / 2^(8*(3-m))%256)++(if m<3 then[46]else[])
theorem preD_four (v:Nat):preD v 4=dottedP [v / 2^24%256,v / 2^16%256,v / 2^8%256,v / 2^0%256]:=by
 simp[preD,dottedP,joinP]
end Lz
namespace Go.Proofs.YtipndhbgehdeoaaGreatDoor
open Go.RowKit
theorem itoa_dec (d:Nat):Lib.itoa (d:Int)=Lib.decDigits d:=by
 unfold Lib.itoa;rw[if_neg (by omega),Int.toNat_natCast]
def RFour7 (o:Option (List UInt8)) (w:World) (e:Ending) (w':World):Prop:=
 Below w.heap.size w w'/\match o with
  | some t=>∃u:ByteArray,e=.returned (.tuple #[.string u,.int .i64 0])/\Hid (u.data.toList=t)
  | none=>e=.returned (.tuple #[.string ⟨#[]⟩,.int .i64 71])
theorem four07_any (b cap:Nat) (xs:List ByteArray) (w:World) (hE:EnvH w) (hT:TextsAt w b xs) (hpos:1<=xs.length) (hL:xs.length<=2000000) (hsz:∀x,x∈xs->x.size<=1000000):
  Calls Tryz.prog 71 #[.slice (some ⟨b,0,none⟩) xs.length cap] w (RFour7 (Lz.fourP (xs.map (·.data.toList))) w):=by
 have hb0:=Below.refl w.heap.size w;by_cases h4:4<xs.length
 ·have h4I:(4:Int)<(xs.length:Int):=by omega
  have HR:Hid (Lz.fourP (xs.map (·.data.toList))=none):=Ih (by unfold Lz.fourP;rw[if_pos (by simpa using h4)]);rw[HR.out];clear h4;go_enter Tryz.func71,Tryz.ntmps71
  go_wp2_with fail
  go_ret2
  exact⟨hb0,by show _=_;rfl⟩
 ·have h4I:¬(4:Int)<(xs.length:Int):=by omega
  obtain⟨goal,hg⟩:∃goal,goal=Lz.allR xs.length 0 (xs.map (·.data.toList)):=⟨_,rfl⟩;have HG:=Ih hg
  have HF:Hid (Lz.fourP (xs.map (·.data.toList))=goal.map fun v=>Lz.dottedP [v / 2^24%256,v / 2^16%256,v / 2^8%256,v / 2^0%256]):=Ih (by
   rw[hg,Lz.fourP_all _ (by intro h;rw[List.map_eq_nil_iff]at h;rw[h]at hpos;simp at hpos) (by simp;omega),List.length_map])
  rw[HF.out];clear hg HF;have HT:=Ih hT;have Hsz:=Ih hsz;clear hT hsz;obtain⟨n,hn⟩:∃n,n=xs.length:=⟨_,rfl⟩;rw[<-hn]at hpos hL h4 h4I HG;rw[<-hn];have Hn:=Ih hn;clear hn;go_enter Tryz.func71,Tryz.ntmps71
  go_wp2_with fail
  go_loopw [4,5] (fun a j wr=>∃(all i:Nat),a=.int .i64 all/\j=.int .i64 i/\i<=n/\(i<n->all<256^i)/\all<4294967296/\Hid (goal=Lz.allR n all ((xs.drop i).map (·.data.toList)))/\w=wr) (fun _ j _=>n-(intOf j).toNat)
  case atStart=>exact⟨0,0,rfl,rfl,Nat.zero_le _,fun _=>by simp,by omega,Ih (by rw[HG.out];rfl),rfl⟩
  case round=>
   obtain⟨all,i,rfl,rfl,hi,hall,hall4,HR,rfl⟩:=hrel;by_cases hlt:i<n
   ·have hltI:(i:Int)<(n:Int):=by omega
    have hi0:(0:Int)<=(i:Int):=by omega
    obtain⟨x,hx⟩:∃x,xs[i]? =some x:=⟨_,List.getElem?_eq_getElem (by rw[<-Hn.out];exact hlt)⟩;have hcx:=HT.out.cells _ _ hx;have hxz:=Hsz.out x (List.mem_of_getElem? hx);have cN:=Number07_any x (by omega) w
    have hst:Lz.allR n all ((xs.drop i).map (·.data.toList))=match Lz.numP x.data.toList with
      | none=>none
      | some v=>if(if i+1=n then 256^(5-n)else 256)<=v then none else Lz.allR n (all*(if i+1=n then 256^(5-n)else 256)+v) ((xs.drop (i+1)).map (·.data.toList)):=by
     have hl:i<xs.length:=by rw[<-Hn.out];exact hlt
     have hxe:xs[i]=x:=by have:=List.getElem?_eq_getElem hl;rw[hx]at this;exact(Option.some.inj this).symm
     rw[List.drop_eq_getElem_cons hl,List.map_cons,Lz.allR_cons,hxe]
     have hiff:((xs.drop (i+1)).map (·.data.toList)=[])↔i+1=n:=by
      rw[List.map_eq_nil_iff,List.drop_eq_nil_iff,<-Hn.out];omega
     simp only[hiff]
    generalize Lz.numP x.data.toList=o at cN hst;have Hst:=Ih hst;have CN:=Ih cN;obtain⟨m,hm⟩:∃m,m=(if i+1=n then 256^(5-n)else 256):=⟨_,rfl⟩;rw[<-hm]at Hst;have Hm:=Ih hm
    have hmv:m<=4294967296:=by
     rw[hm];split
     ·exact Nat.le_trans (Nat.pow_le_pow_right (by omega) (show 5-n<=4 by omega)) (by decide)
     ·omega
    have hnext:∀v,v<m->(i+1<n->all*m+v<256^(i+1))/\all*m+v<4294967296:=by
     intro v hv;have h1:all*m+v<(all+1)*m:=by rw[Nat.add_mul];omega
     have ha:=hall hlt;have h2:(all+1)*m<=256^i*m:=Nat.mul_le_mul_right _ ha;by_cases hl:i+1=n
     ·have e:256^i*m=4294967296:=by
       rw[hm,if_pos hl,<-Nat.pow_add,show i+(5-n)=4 by omega]
      exact⟨fun h=>by omega,by omega⟩
     ·have e:256^i*m=256^(i+1):=by rw[hm,if_neg hl,Nat.pow_succ]
      have e2:256^(i+1)<=256^3:=Nat.pow_le_pow_right (by omega) (by omega);exact⟨fun h=>by omega,by omega⟩
    have Hnext:=Ih hnext;clear hst cN hx hm hnext hall
    go_wp2_with fail
    refine CN.out.mono ?_;rintro _ w1 ⟨rfl,rfl⟩;obtain⟨nv,hnv⟩:∃nv,nv=o.getD 0:=⟨_,rfl⟩;obtain⟨ok,hok⟩:∃ok,ok=o.isSome:=⟨_,rfl⟩;rw[<-hnv,<-hok];have HO:=Ih (And.intro hnv hok);clear hnv hok
    go_wp2_with fail
    go_loopw [8,9] (fun a k wr=>∃(M j:Nat),a=.int .i64 M/\k=.int .i64 j/\M<=4294967296/\Hid (M=256^(j+1))/\j<=3/\(0<j->i+1=n/\j+n<=4)/\w=wr) (fun _ k _=>4-(intOf k).toNat)
    case atStart=>exact⟨256,0,rfl,rfl,by omega,Ih rfl,by omega,fun h=>absurd h (by omega),rfl⟩
    case round=>
     obtain⟨M,j,rfl,rfl,hM,HM,hj,hjn,rfl⟩:=hrel;obtain⟨n1,hn1⟩:∃n1,n=n1+1:=⟨n-1,by omega⟩;have hn1I:(n:Int)-1=(n1:Int):=by omega
     obtain⟨r4,hr4⟩:∃r4,r4+n=4:=⟨4-n,by omega⟩;have hr4I:(4:Int)-(n:Int)=(r4:Int):=by omega
     by_cases hl:i+1=n
     ·have q1:((i:Int)==(n1:Int))=true:=by rw[beq_iff_eq];omega
      by_cases hjr:j<r4
      ·have hjI:(j:Int)<(r4:Int):=by omega
       have hM2:M*256<=4294967296:=by
        rw[HM.out,<-Nat.pow_succ];exact Nat.le_trans (Nat.pow_le_pow_right (by omega) (show j+1+1<=4 by omega)) (by decide)
       have HM2:Hid (M*256=256^(j+1+1)):=Ih (by rw[HM.out,<-Nat.pow_succ]);clear HM
       go_wp2_with fail
       go_roundw
       case rel=>exact⟨M*256,j+1,by go_num,by go_num,hM2,HM2,by omega,fun _=>⟨hl,by omega⟩,by first |rfl|trivial⟩
       case measure=>simp[intOf];omega
      ·have hjI:¬(j:Int)<(r4:Int):=by omega
       have HMm:Hid (M=m):=Ih (by
        rw[HM.out,Hm.out,if_pos hl];congr 1;by_cases h0:0<j
        ·have:=(hjn h0).2;omega
        ·omega)
       clear hn1 hr4 hl;cases ok with
       | false=>
         have HN:Hid (goal=none):=Ih (by
          have ho:o=none:=by have:=HO.out.2;cases o with
           | none=>rfl
           | some v=>cases this
          rw[HR.out,Hst.out,ho])
         clear HR Hst HO Hm HM
         go_wp2_with fail
         go_ret2
         rw[HN.out];exact⟨hb0,by show _=_;rfl⟩
       | true=>
         have HS:Hid (o=some nv):=Ih (by
          obtain⟨k1,k2⟩:=HO.out;cases o with
          | none=>cases k2
          | some v=>rw[k1];rfl)
         by_cases hge:M<=nv
         ·have hgeI:(M:Int)<=(nv:Int):=by omega
          have HN:Hid (goal=none):=Ih (by rw[HR.out,Hst.out,HS.out];simp only;rw[if_pos (by rw[<-HMm.out];exact hge)]);clear HR Hst HO Hm HM HS hge
          go_wp2_with fail
          go_ret2
          rw[HN.out];exact⟨hb0,by show _=_;rfl⟩
         ·have hgeI:¬(M:Int)<=(nv:Int):=by omega
          have HN:Hid (goal=Lz.allR n (all*M+nv) ((xs.drop (i+1)).map (·.data.toList))):=Ih (by
           rw[HR.out,Hst.out,HS.out];simp only;rw[if_neg (by rw[<-HMm.out];exact hge),HMm.out])
          obtain⟨k1,k2⟩:=Hnext.out nv (by rw[<-HMm.out];omega);rw[<-HMm.out]at k1 k2;obtain⟨am,ham⟩:∃am,am=all*M:=⟨_,rfl⟩;have hamI:(all:Int)*(M:Int)=(am:Int):=by rw[ham];push_cast;rfl
          rw[<-ham]at k1 k2 HN;have K1:=Ih k1;clear HR Hst HO Hm HM HS hge ham k1 Hnext HMm
          go_wp2_with fail
          go_roundw
          case rel=>exact⟨am+nv,i+1,by go_num,by go_num,by omega,K1.out,k2,HN,by first |rfl|trivial⟩
          case measure=>simp[intOf];omega
     ·have q1:((i:Int)==(n1:Int))=false:=by rw[beq_eq_false_iff_ne];omega
      have HMm:Hid (M=m):=Ih (by
       have:j=0:=by
        by_cases h0:0<j
        ·exact absurd (hjn h0).1 hl
        ·omega
       rw[HM.out,Hm.out,if_neg hl,this])
      clear hn1 hr4 hl;cases ok with
      | false=>
        have HN:Hid (goal=none):=Ih (by
         have ho:o=none:=by have:=HO.out.2;cases o with
          | none=>rfl
          | some v=>cases this
         rw[HR.out,Hst.out,ho])
        clear HR Hst HO Hm HM
        go_wp2_with fail
        go_ret2
        rw[HN.out];exact⟨hb0,by show _=_;rfl⟩
      | true=>
        have HS:Hid (o=some nv):=Ih (by
         obtain⟨k1,k2⟩:=HO.out;cases o with
         | none=>cases k2
         | some v=>rw[k1];rfl)
        by_cases hge:M<=nv
        ·have hgeI:(M:Int)<=(nv:Int):=by omega
         have HN:Hid (goal=none):=Ih (by rw[HR.out,Hst.out,HS.out];simp only;rw[if_pos (by rw[<-HMm.out];exact hge)]);clear HR Hst HO Hm HM HS hge
         go_wp2_with fail
         go_ret2
         rw[HN.out];exact⟨hb0,by show _=_;rfl⟩
        ·have hgeI:¬(M:Int)<=(nv:Int):=by omega
         have HN:Hid (goal=Lz.allR n (all*M+nv) ((xs.drop (i+1)).map (·.data.toList))):=Ih (by
          rw[HR.out,Hst.out,HS.out];simp only;rw[if_neg (by rw[<-HMm.out];exact hge),HMm.out])
         obtain⟨k1,k2⟩:=Hnext.out nv (by rw[<-HMm.out];omega);rw[<-HMm.out]at k1 k2;obtain⟨am,ham⟩:∃am,am=all*M:=⟨_,rfl⟩;have hamI:(all:Int)*(M:Int)=(am:Int):=by rw[ham];push_cast;rfl
         rw[<-ham]at k1 k2 HN;have K1:=Ih k1;clear HR Hst HO Hm HM HS hge ham k1 Hnext HMm
         go_wp2_with fail
         go_roundw
         case rel=>exact⟨am+nv,i+1,by go_num,by go_num,by omega,K1.out,k2,HN,by first |rfl|trivial⟩
         case measure=>simp[intOf];omega
   ·have hltI:¬(i:Int)<(n:Int):=by omega
    have HN:Hid (goal=some all):=Ih (by rw[HR.out,List.drop_eq_nil_of_le (by rw[<-Hn.out];omega)];rfl);clear HR hall Hsz HT HG
    go_wp2_with fail
    go_loopw [10,11] (fun o k wr=>∃(t:ByteArray) (j:Nat),o=.string t/\k=.int .i64 ((j:Int)-1)/\j<=4/\t.size+4*j<=16/\Hid (t.data.toList=Lz.preD all (4-j))/\Below w.heap.size w wr) (fun _ k _=>(intOf k+1).toNat)
    case atStart=>exact⟨⟨#[]⟩,4,rfl,rfl,by omega,by show 0+4*4<=16;omega,Ih rfl,hb0⟩
    case round=>
     obtain⟨t,j,rfl,rfl,hj,htz,hT,hbw⟩:=hrel;cases j with
     | zero=>
       have h0:¬(0:Int)<=((0:Nat):Int)-1:=by omega
       go_wp2_with fail
       go_ret2
       rw[HN.out];exact⟨hbw,_,rfl,Ih (by rw[hT.out];simpa using Lz.preD_four all)⟩
     | succ k=>
       have hk3:k<=3:=by omega
       have hk1:((k+1:Nat):Int)-1=(k:Int):=by omega
       have hk0:(0:Int)<=(k:Int):=by omega
       obtain⟨d,hd⟩:∃d,d=all / 2^(8*k)%256:=⟨_,rfl⟩;have hd2:d<256:=by rw[hd];exact Nat.mod_lt _ (by omega)
       have Hd:=Ih hd;have cI:=Ih (Itoa_h (d:Int) (by omega) (by omega) wr (hE.below hbw))
       have hdm:(((all:Nat):Int) / 2^(8*k)).tmod 256=(d:Int):=by
        rw[hd,Int.tmod_eq_emod_of_nonneg (Int.ediv_nonneg (by omega) (Int.le_of_lt (Int.pow_pos (by omega))))];push_cast;rfl
       have HP:Hid (Lz.preD all (4-k)=Lz.preD all (4-(k+1))++Lib.decDigits d++(if 0<k then[46]else[])):=Ih (by
        rw[show 4-k=(4-(k+1))+1 by omega,Lz.preD,show 3-(4-(k+1))=k by omega,<-hd];by_cases h0:0<k
        ·rw[if_pos h0,if_pos (by omega)]
        ·rw[if_neg h0,if_neg (by omega)])
       have hdl:=decDigits_len2 2 d (by omega);clear hd
       go_wp2_with fail
       refine cI.out.mono ?_;rintro _ w2 ⟨u,rfl,hu,hb2⟩;have hu2:u.data.toList=Lib.decDigits d:=by rw[hu.out];exact itoa_dec d
       have huz:u.size<=3:=by rw[cat_len hu2];exact hdl
       have HU:=Ih hu2;have hb3:=below_call hbw hb2;have n1:¬(9223372036854775807<t.size+u.size):=by omega
       have n2:¬(9223372036854775807<t.size+u.size+1):=by omega
       have hk1b:(k:Int)+1-1=(k:Int):=by omega
       clear hu hu2;by_cases hz:0<k
       ·have hzI:(0:Int)<(k:Int):=by omega
        have HP2:Hid (Lz.preD all (4-k)=Lz.preD all (4-(k+1))++Lib.decDigits d++[46]):=Ih (by rw[HP.out,if_pos hz]);clear HP hz
        go_wp2_with fail
        go_roundw
        case rel=>exact⟨t++u++⟨#[46]⟩,k,rfl,by go_num,by omega,by rw[ByteArray.size_append,ByteArray.size_append];show t.size+u.size+1+4*k<=16;omega,Ih (by rw[append_data',append_data',hT.out,HU.out,HP2.out]),hb3⟩
        case measure=>simp[intOf]
       ·have hzI:¬(0:Int)<(k:Int):=by omega
        have HP2:Hid (Lz.preD all (4-k)=Lz.preD all (4-(k+1))++Lib.decDigits d):=Ih (by rw[HP.out,if_neg hz,List.append_nil]);clear HP hz
        go_wp2_with fail
        go_roundw
        case rel=>exact⟨t++u,k,rfl,by go_num,by omega,by rw[ByteArray.size_append];omega,Ih (by rw[append_data',hT.out,HU.out,HP2.out]),hb3⟩
        case measure=>simp[intOf]
end Go.Proofs.YtipndhbgehdeoaaGreatDoor
