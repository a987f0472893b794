/-
  Package urls: Text.
-/
import Derived.Test.YtjhccadmmnjpeaaGreatDoorT32
import Derived.Test.YtjhccadmmnjpeaaGreatDoorT30
set_option maxHeartbeats 8000000
set_option maxRecDepth 100000
namespace Go.Proofs.YtjhccadmmnjpeaaGreatDoor
open Go.RowKit
theorem IsBuilder_below {T e:TypeId} {B b:Nat} {bs:List Value} {w w':World} (h:Lib.IsBuilder T e B b bs w) (hb:Below w.heap.size w w'):Lib.IsBuilder T e B b bs w':=by
 have go:∀p,Lib.BuilderAt T e B b p bs w->Lib.BuilderAt T e B b p bs w':=by
  intro p hp;have hlt:=hp.lt;obtain⟨h1,v,hk,hown,hne⟩:=hp;exact⟨h1,v,(hb.block _ hlt).trans hk,hown.kept (below_grown hb) (by cases v.ownBlock<;>simp),hne⟩
 rcases h with h|h
 ·exact Or.inl (go _ h)
 ·exact Or.inr (go _ h)
structure TB (b:Nat) (W0:World) (l:List UInt8) (W:World):Prop where
 made:Lib.IsBuilder 72 5 b b (Lib.byteCells l) W
 below:Below b W0 W
theorem TB.write {b:Nat} {W0 W:World} {l:List UInt8} (h:TB b W0 l W) (hb:b<=W0.heap.size) (s:ByteArray) (hl:l.length+s.size<=100000000000):
  Calls Tryz.prog 71 #[.pointer (some ⟨b,0,none⟩),.string s] W fun e w'=>e=.returned (.tuple #[.int .i64 s.size,.nilIface])/\TB b W0 (l++s.data.toList) w':=by
 refine(WriteString_any b b (Lib.byteCells l) s W h.made (by simp[Lib.byteCells];omega) (Nat.le_trans hb h.below.size)).mono ?_;rintro e w' ⟨rfl,hm,hbw⟩;exact⟨rfl,by rw[byteCells_append];exact hm,h.below.trans hbw⟩
theorem TB.call {b:Nat} {W0 W W':World} {l:List UInt8} (h:TB b W0 l W) (hb:b<=W0.heap.size) (hbw:Below W.heap.size W W'):TB b W0 l W':=
 ⟨IsBuilder_below h.made hbw,h.below.trans (hbw.mono (Nat.le_trans hb h.below.size))⟩
theorem TB.str {b:Nat} {W0 W:World} {l:List UInt8} (h:TB b W0 l W) (hb:b<=W0.heap.size):
  Calls Tryz.prog 61 #[.pointer (some ⟨b,0,none⟩)] W fun e w'=>e=.returned (.string ⟨l.toArray⟩)/\Below b W0 w':=by
 refine(Tryz.Builder_String_any b b l W h.made (Nat.le_trans hb h.below.size)).mono ?_;rintro e w' ⟨rfl,hbw⟩;exact⟨rfl,h.below.trans hbw⟩
theorem size_one (c:UInt8):(⟨#[c]⟩:ByteArray).size=1:=rfl
theorem size_two (c d:UInt8):(⟨#[c,d]⟩:ByteArray).size=2:=rfl
theorem emp_dec (s:ByteArray):s.toList.isEmpty=decide (s.data.toList=[]):=by
 by_cases h:s.data.toList=[]
 ·rw[decide_eq_true h];exact isEmpty_of_size (by rw[<-len_of_size,h];rfl)
 ·rw[decide_eq_false h];exact isEmpty_of_pos (by rw[<-len_of_size];exact List.length_pos_iff.2 h)
def partsH (u:Lz.UrlL):List UInt8:=(if u.hasHost then[47,47]++u.user++(if u.pass=[]then[]else[58]++u.pass)++(if u.user=[]/\u.pass=[]then[]else[64])++Lz.atU u
 else if u.opq=false/\1<u.path.length/\u.path.head? =some []then[47,46]else[])
def partsP (opq:Bool) (l:List (List UInt8)):List UInt8:=if opq then l.headD []else l.flatMap fun p=>47::p
theorem text_parts (u:Lz.UrlL):Lz.textU u=u.scheme++[58]++partsH u++partsP u.opq u.path++(if u.hasQuery then 63::u.query else[])++(if u.hasFragment then 35::u.fragment else[]):=rfl
theorem partsP_le (opq:Bool) (l:List (List UInt8)) (i:Nat):(partsP opq (l.take i)).length<=(partsP opq l).length:=by
 unfold partsP;cases opq with
 | true=>
   cases l with
   | nil=>simp
   | cons a r=>cases i<;>simp
 | false=>
   simp only[Bool.false_eq_true,if_false]
   conv=>rhs;rw[<-List.take_append_drop i l,List.flatMap_append]
   simp
theorem partsP_step {l:List (List UInt8)} {i:Nat} (h:i<l.length):partsP false (l.take (i+1))=partsP false (l.take i)++[47]++l[i]:=by
 unfold partsP;simp only[Bool.false_eq_true,if_false];rw[List.take_succ_eq_append_getElem h,List.flatMap_append]
 simp
theorem partsP_zero {l:List (List UInt8)} (h:0<l.length):partsP true (l.take 1)=l[0]:=by
 cases l with
 | nil=>simp at h
 | cons a r=>rfl
theorem partsP_more {l:List (List UInt8)} {i:Nat} (h:0<i):partsP true (l.take (i+1))=partsP true (l.take i):=by
 cases l with
 | nil=>simp
 | cons a r=>
   obtain⟨j,rfl⟩:∃j,i=j+1:=⟨i-1,by omega⟩;rfl
theorem Text_any (v:Value) (u:Lz.UrlL) (w:World) (hv:UrlVal w v u) (hE:EnvH w) (hp0: -9223372036854775808<=u.port) (hp1:u.port<=9223372036854775807) (hH:u.host.length<=1000000000) (hT:(Lz.textU u).length<=1000000000) (hN:u.path.length<=1000000000):Calls Tryz.prog 44 #[v] w (RStr (Lz.textU u) w):=by
 have hv0:=hv;obtain⟨sch,usr,pas,hh,hst,prt,opq,a,c,xs,hq,hf,qry,frg,rfl,hu,hx⟩:=hv.form;rw[text_parts]at hT⊢;have hA:=Ih (fun(V:World) (hb:Below w.heap.size w V)=>at_any _ u V (hv0.below hb) (hE.below hb) hp0 hp1 hH);obtain⟨AT,hAT⟩:∃AT,Lz.atU u=AT:=⟨_,rfl⟩;rw[hAT]at hA;obtain⟨PH,hPH⟩:∃PH,PH=partsH u:=⟨_,rfl⟩;have hPH2:PH=(if hh then[47,47]++usr.data.toList++(if pas.data.toList=[]then[]else[58]++pas.data.toList)++(if usr.data.toList=[]/\pas.data.toList=[]then[]else[64])++AT else if opq=false/\1<xs.length/\xs.head?.map (fun x:ByteArray=>x.data.toList)=some []then[47,46]else[]):=by rw[hPH,<-hAT,hu];simp[partsH,List.head?_map]
 have hPP:partsP u.opq u.path=partsP opq (xs.map fun x:ByteArray=>x.data.toList):=by rw[hu]
 rw[<-hPH,hPP]at hT⊢;have e1:u.scheme=sch.data.toList:=by rw[hu]
 have e2:u.hasQuery=hq:=by rw[hu]
 have e3:u.query=qry.data.toList:=by rw[hu]
 have e4:u.hasFragment=hf:=by rw[hu]
 have e5:u.fragment=frg.data.toList:=by rw[hu]
 have e6:u.path.length=xs.length:=by rw[hu];simp
 rw[e1,e2,e3,e4,e5]at hT⊢;rw[e6]at hN;obtain⟨PP,hPPd⟩:∃PP,PP=partsP opq (xs.map fun x:ByteArray=>x.data.toList):=⟨_,rfl⟩;rw[<-hPPd]at hT⊢;obtain⟨goal,hg⟩:∃goal,goal=sch.data.toList++[58]++PH++PP++(if hq then 63::qry.data.toList else[])++(if hf then 35::frg.data.toList else[]):=⟨_,rfl⟩;rw[<-hg]at hT⊢;have HG:=Ih hg;have HPP:=Ih hPPd;have HPH:=Ih hPH2
 have hsum:sch.size+1+PH.length+PP.length+(if hq then 1+qry.size else 0)+(if hf then 1+frg.size else 0)<=1000000000:=by
  rw[hg]at hT;simp only[List.length_append,List.length_cons,List.length_nil]at hT;rw[len_of_size]at hT;have h1:(if hq then 63::qry.data.toList else[]).length=(if hq then 1+qry.size else 0):=by split<;>simp<;>first |rfl|omega
  have h2:(if hf then 35::frg.data.toList else[]).length=(if hf then 1+frg.size else 0):=by split<;>simp<;>first |rfl|omega
  omega
 have hc0:sch.size+1<=1000000000:=by omega
 have hcH:sch.size+1+PH.length<=1000000000:=by omega
 have hcP:sch.size+1+PH.length+PP.length<=1000000000:=by omega
 have HSum:=Ih hsum;clear hAT;obtain⟨W,hW⟩:∃W,W=(w.alloc (.cells #[.string sch,.string usr,.string pas,.bool hh,.string hst,.int .i64 prt,.bool opq,.slice a xs.length c,.bool hq,.bool hf,.string qry,.string frg] 36)).alloc (.cells #[.pointer none,.slice none 0 0] 72):=⟨_,rfl⟩;obtain⟨b,hbd⟩:∃b,b=w.heap.size+1:=⟨_,rfl⟩;have hbW:Below w.heap.size w W:=by rw[hW];exact((Below.refl _ w).alloc (Nat.le_refl _) _).alloc (by simp) _
 have hR:W.heap[w.heap.size]? =some (.cells #[.string sch,.string usr,.string pas,.bool hh,.string hst,.int .i64 prt,.bool opq,.slice a xs.length c,.bool hq,.bool hf,.string qry,.string frg] 36 (0,0)):=by rw[hW,Below.heap_alloc _ _ _ (by simp)];exact heap_new _ _
 have hbz:b<=W.heap.size:=by rw[hW,hbd];simp
 have hGb:w.heap.size<b:=by omega
 have T0:TB b W [] W:=⟨by
  have:=Lib.fresh_isBuilder 72 5 (w.alloc (.cells #[.string sch,.string usr,.string pas,.bool hh,.string hst,.int .i64 prt,.bool opq,.slice a xs.length c,.bool hq,.bool hf,.string qry,.string frg] 36));rw[hW,hbd];simpa [Lib.byteCells]using this,Below.refl _ _⟩
 have hrow:∀V,Below b W V->V.heap[w.heap.size]? =some (.cells #[.string sch,.string usr,.string pas,.bool hh,.string hst,.int .i64 prt,.bool opq,.slice a xs.length c,.bool hq,.bool hf,.string qry,.string frg] 36 (0,0)):=fun V hb=>(hb.block _ hGb).trans hR;have hbel:∀V,Below b W V->Below w.heap.size w V:=fun V hb=>hbW.trans (hb.mono (by omega));have HW:=Ih hW;have Hrow:=Ih hrow;have HX:Hid (∀(j:Nat) (x:ByteArray),xs[j]? =some x->∃G o,a=some ⟨G,o,none⟩/\G<w.heap.size/\w.cell? ⟨G,o+j,none⟩=some (.string x)):=Ih hx;have HBd:=Ih hbd;have Hbel:=Ih hbel;obtain⟨eP,hEP⟩:∃e,pas.toList.isEmpty=e:=⟨_,rfl⟩;obtain⟨eU,hEU⟩:∃e,usr.toList.isEmpty=e:=⟨_,rfl⟩;have HEP:Hid (eP=decide (pas.data.toList=[])):=by show _=_;rw[<-hEP];exact emp_dec pas
 have HEU:Hid (eU=decide (usr.data.toList=[])):=by show _=_;rw[<-hEU];exact emp_dec usr
 have p0:=rowAt hR 0 (.string sch) rfl;have n0:¬(9223372036854775807<sch.size+1):=by omega
 have c0:=Ih (T0.write hbz (sch++⟨#[58]⟩) (by simp[size_one];omega));clear hW hR hbd hrow hbel hx hv hv0 hu hPH hPH2 hPP e1 e2 e3 e4 e5 e6 hPPd hg hsum hT T0 hE hp0 hp1 hH;go_enter Tryz.func44,Tryz.ntmps44
 go_upto_block 0 with(first |rw[<-HW.out]|(rw[<-HBd.out];refine c0.out.mono ?_;rintro e w1 ⟨rfl,T1⟩))
 rw[List.nil_append,append_data']at T1;have T1h:=Ih T1;have hr1:=Hrow.out w1 T1.below;clear T1 p0 c0
 go_cut [] (fun wx=>TB b W (sch.data.toList++[58]++PH) wx)
 case first=>
  cases hh with
  | true=>
    have hPH2:PH=[47,47]++usr.data.toList++(if eP then[]else[58]++pas.data.toList)++(if eU&&eP then[]else[64])++AT:=by
     rw[HPH.out,HEP.out,HEU.out]
     simp
    have hlH:PH.length=2+usr.size+(if eP then 0 else 1+pas.size)+(if eU&&eP then 0 else 1)+AT.length:=by
     rw[hPH2];simp only[List.length_append,len_of_size,List.length_cons,List.length_nil];have h1:(if eP=true then([]:List UInt8)else[58]++pas.data.toList).length=(if eP=true then 0 else 1+pas.size):=by split<;>simp<;>omega
     have h2:(if(eU&&eP)=true then([]:List UInt8)else[64]).length=(if(eU&&eP)=true then 0 else 1):=by split<;>simp
     omega
    have HPH2:=Ih hPH2;have hus:2+usr.size<=PH.length:=by omega
    have n2:¬(9223372036854775807<2+usr.size):=by omega
    have c2:=Ih (T1h.out.write hbz (⟨#[47,47]⟩++usr) (by simp[size_two];omega));have hlH2:=Ih hlH;have p3:=rowAt hr1 3 (.bool true) rfl;have p1:=rowAt hr1 1 (.string usr) rfl;clear HPH n0 hPH2 hlH hr1;obtain⟨e7,he7⟩:∃e7,e7=(eU&&eP):=⟨_,rfl⟩;have HE7:=Ih he7;clear he7
    go_wp2_with fail
    refine c2.out.mono ?_;rintro e w2 ⟨rfl,T2⟩;rw[append_data']at T2;have hr2:=Hrow.out w2 T2.below;have q2:=rowAt hr2 2 (.string pas) rfl;have T2h:=Ih T2;clear T2 c2 p1 p3 hr2
    go_upto_if 19 with fail
    go_cut [] (fun wx=>TB b W (sch.data.toList++[58]++([47,47]++usr.data.toList)++(if eP then[]else[58]++pas.data.toList)) wx)
    case first=>
     cases eP with
     | true=>
       go_wp2_with fail
       go_meet;simpa using T2h.out
     | false=>
       have hlp:2+usr.size+(1+pas.size)<=PH.length:=by have:=hlH2.out;simp at this;omega
       have n3:¬(9223372036854775807<1+pas.size):=by omega
       have c3:=Ih (T2h.out.write hbz (⟨#[58]⟩++pas) (by simp[size_one];omega))
       go_wp2_with fail
       refine c3.out.mono ?_;rintro e w3 ⟨rfl,T3⟩;rw[append_data']at T3
       go_wp2_with fail
       go_meet;simpa using T3
    case rest=>
    have T3h:=Ih hcut;have hr3:=Hrow.out wc hcut.below;clear hcut T2h q2;have k1:=rowAt hr3 1 (.string usr) rfl;have k2:=rowAt hr3 2 (.string pas) rfl
    go_upto_region 7 with fail
    go_cut [31] (fun s wx=>s=.bool (!e7)/\wc=wx)
    case first=>
     cases eU with
     | true=>
       cases eP with
       | true=>
         have HE:Hid (e7=true):=Ih HE7.out
         go_wp2_with fail
         go_meet;exact⟨by rw[HE.out];rfl,rfl⟩
       | false=>
         have HE:Hid (e7=false):=Ih HE7.out
         go_wp2_with fail
         go_meet;exact⟨by rw[HE.out];rfl,rfl⟩
     | false=>
       have HE:Hid (e7=false):=Ih HE7.out
       go_wp2_with fail
       go_meet;exact⟨by rw[HE.out];rfl,rfl⟩
    case rest=>
    obtain⟨rfl,rfl⟩:=hcut;clear k1 k2;have hl7:2+usr.size+(if eP=true then 0 else 1+pas.size)+(if e7=true then 0 else 1)+AT.length=PH.length:=by rw[HE7.out];exact hlH2.out.symm
    have hl3:(sch.data.toList++[58]++([47,47]++usr.data.toList)++(if eP then[]else[58]++pas.data.toList)).length+1+(if e7=true then 0 else 1)+AT.length<=2000000000:=by
     simp only[List.length_append,len_of_size,List.length_cons,List.length_nil];have h1:(if eP=true then([]:List UInt8)else[58]++pas.data.toList).length=(if eP=true then 0 else 1+pas.size):=by split<;>simp<;>omega
     omega
    have HPH3:Hid (sch.data.toList++[58]++PH=sch.data.toList++[58]++([47,47]++usr.data.toList)++(if eP then[]else[58]++pas.data.toList)++(if e7 then[]else[64])++AT):=by
     show _=_;rw[HPH2.out,HE7.out];simp only[List.append_assoc]
    generalize hL3:sch.data.toList++[58]++([47,47]++usr.data.toList)++(if eP then[]else[58]++pas.data.toList)=L3 at T3h hl3 HPH3;clear hL3 hl7 hlH2 HPH2 HE7
    go_upto_if 31 with fail
    go_cut [] (fun wx=>TB b W (L3++(if e7 then[]else[64])) wx)
    case first=>
     cases e7 with
     | true=>
       go_wp2_with fail
       go_meet;simpa using T3h.out
     | false=>
       have c4:=Ih (T3h.out.write hbz ⟨#[64]⟩ (by simp[size_one];omega))
       go_wp2_with fail
       refine c4.out.mono ?_;rintro e w4 ⟨rfl,T4⟩
       go_wp2_with fail
       go_meet;simpa using T4
    case rest=>
    have T4h:=Ih hcut;have Hr4:=Ih (Hrow.out wc hcut.below);have cA:=Ih (hA.out wc (Hbel.out wc hcut.below));clear hcut T3h hr3
    go_wp2_with (refine wpList_load_row rfl 36 (.tmp 1) rfl w.heap.size rfl 36 _ (0,0) _ Hr4.out Tryz.underlying36 rfl urlSize ?_)
    refine cA.out.mono ?_;rintro e w5 ⟨t,rfl,ht,hb5⟩;have hts:t.size=AT.length:=by rw[<-len_of_size,ht.out]
    have T5:=T4h.out.call hbz hb5
    have c5:=Ih (T5.write hbz t (by
     have h2:(if e7=true then([]:List UInt8)else[64]).length=(if e7=true then 0 else 1):=by split<;>simp
     rw[List.length_append];omega))
    clear T5
    go_wp2_with fail
    refine c5.out.mono ?_;rintro e w6 ⟨rfl,T6⟩
    go_wp2_with fail
    go_meet;rw[HPH3.out,<-ht.out];exact T6
  | false=>
    have p3:=rowAt hr1 3 (.bool false) rfl;obtain⟨q10,hq10⟩:∃q10,q10=decide (opq=false/\1<xs.length/\xs.head?.map (fun x:ByteArray=>x.data.toList)=some []):=⟨_,rfl⟩;have HQ:=Ih hq10
    have HPH2:Hid (PH=if q10 then[47,46]else[]):=by
     show _=_;rw[HPH.out,hq10]
     simp
    clear hq10 HPH;have p6:=rowAt hr1 6 (.bool opq) rfl;have p7:=rowAt hr1 7 (.slice a xs.length c) rfl
    go_upto_region 10 with fail
    go_cut [36] (fun s wx=>s=.bool q10/\w1=wx)
    case first=>
     cases opq with
     | true=>
       have HQ2:Hid (q10=false):=by show _=_;rw[HQ.out];simp
       go_wp2_with fail
       go_meet;exact⟨by rw[HQ2.out],rfl⟩
     | false=>
       by_cases h1:1<xs.length
       ·have h1I:(1:Int)<(xs.length:Int):=by omega
        have h0I:(0:Int)<(xs.length:Int):=by omega
        obtain⟨x0,hx0⟩:∃x0,xs[0]? =some x0:=⟨_,List.getElem?_eq_getElem (by omega)⟩;obtain⟨G1,o1,ha1,hG1,hc1⟩:=HX.out 0 x0 hx0;have d1:w1.cell? ⟨G1,o1,none⟩=some (.string x0):=by rw[(Hbel.out w1 T1h.out.below).cell (p:=⟨G1,o1,none⟩) hG1];exact hc1
        rw[ha1]at p7;obtain⟨e0,he0⟩:∃e,x0.toList.isEmpty=e:=⟨_,rfl⟩
        have HQ2:Hid (q10=e0):=by
         show _=_;rw[HQ.out,<-he0,emp_dec,List.head?_eq_getElem?,hx0]
         simp[h1]
        clear ha1 hx0 hc1 h1 HQ hr1;cases e0 with
        | true=>
          go_wp2_with fail
          go_meet;exact⟨by rw[HQ2.out],rfl⟩
        | false=>
          go_wp2_with fail
          go_meet;exact⟨by rw[HQ2.out],rfl⟩
       ·have h1I:¬(1:Int)<(xs.length:Int):=by omega
        have HQ2:Hid (q10=false):=by show _=_;rw[HQ.out];simp[h1]
        clear h1 HQ hr1
        go_wp2_with fail
        go_meet;exact⟨by rw[HQ2.out],rfl⟩
    case rest=>
    obtain⟨rfl,rfl⟩:=hcut;cases q10 with
    | true=>
      have c2:=Ih (T1h.out.write hbz ⟨#[47,46]⟩ (by simp[size_two];omega))
      go_wp2_with fail
      refine c2.out.mono ?_;rintro e w2 ⟨rfl,T2⟩
      go_wp2_with fail
      go_meet;rw[HPH2.out];exact T2
    | false=>
      go_wp2_with fail
      go_meet;rw[HPH2.out];simpa using T1h.out
 case rest=>
 have T2h:=Ih hcut;have hr2:=Hrow.out wc hcut.below;have p7:=rowAt hr2 7 (.slice a xs.length c) rfl;have hlL:(sch.data.toList++[58]++PH).length=sch.size+1+PH.length:=by rw[List.length_append,List.length_append,len_of_size];rfl
 generalize hLL:sch.data.toList++[58]++PH=L at T2h hlL HG;clear hcut T1h hr1 hLL hr2
 go_upto_block 1 with fail
 go_cut [] (fun wx=>TB b W (L++PP) wx)
 case first=>
  by_cases h0:xs.length=0
  ·have h0I:¬(0:Int)<(xs.length:Int):=by omega
   have HP2:Hid (PP=[]):=by
    show _=_;rw[HPP.out,List.length_eq_zero_iff.1 h0];cases opq<;>rfl
   clear h0
   go_wp2_with fail
   refine wp_loop_rounds 1 ?_;rw[rounds_succ]
   go_wp2_with fail
   go_meet;rw[HP2.out,List.append_nil];exact T2h.out
  ·obtain⟨G1,o1,rfl,hG1,hc1⟩:=HX.out 0 xs[0] (List.getElem?_eq_getElem (by omega));clear hc1
   have HX2:Hid (∀(j:Nat) (x:ByteArray),xs[j]? =some x->w.cell? ⟨G1,o1+j,none⟩=some (.string x)):=Ih (fun j x hj=>by
    obtain⟨G,o,e,_,hc⟩:=HX.out j x hj;injection e with e;injection e with e1 e2 _
    subst e1;subst e2;exact hc)
   clear h0;have HCP:=Ih hcP
   go_wp2_with fail
   go_loopw [57] (fun k wr=>∃i:Nat,k=.int .i64 i/\i<=xs.length/\TB b W (L++partsP opq ((xs.map fun x:ByteArray=>x.data.toList).take i)) wr) (fun k _=>xs.length-(intOf k).toNat)
   case atStart=>exact⟨0,rfl,Nat.zero_le _,by rw[List.take_zero];cases opq<;>simpa [partsP]using T2h.out⟩
   case round=>
    obtain⟨i,rfl,hi,TL⟩:=hrel;have hrr:=Hrow.out wr TL.below;have p6o:=rowAt hrr 6 (.bool opq) rfl;have hww:=Hbel.out wr TL.below;have TLh:=Ih TL;clear TL hrr;by_cases hlt:i<xs.length
    ·have hltI:(i:Int)<(xs.length:Int):=by omega
     have hi0:(0:Int)<=(i:Int):=by omega
     obtain⟨x,hx⟩:∃x,x=xs[i]:=⟨_,rfl⟩;have hxg:xs[i]? =some x:=by rw[List.getElem?_eq_getElem hlt,hx]
     have hc1:=HX2.out i x hxg;have d1:wr.cell? ⟨G1,o1+i,none⟩=some (.string x):=by rw[hww.cell (p:=⟨G1,o1+i,none⟩) hG1];exact hc1
     have hxm:(xs.map fun x:ByteArray=>x.data.toList)[i]'(by simpa using hlt)=x.data.toList:=by simp[hx]
     have hPl:(partsP opq ((xs.map fun x:ByteArray=>x.data.toList).take (i+1))).length<=PP.length:=by rw[HPP.out];exact partsP_le _ _ _
     obtain⟨o2,ho2⟩:∃o,o=opq:=⟨_,rfl⟩;have HO:=Ih ho2;have p6:wr.cell? ⟨w.heap.size,6,none⟩=some (.bool o2):=by rw[ho2];exact p6o
     clear ho2 p6o hxg hc1 hx;cases o2 with
     | false=>
       have hst:partsP opq ((xs.map fun x:ByteArray=>x.data.toList).take (i+1))=partsP opq ((xs.map fun x:ByteArray=>x.data.toList).take i)++[47]++x.data.toList:=by rw[<-HO.out,partsP_step (by simpa using hlt),hxm]
       have hln:(L++partsP opq ((xs.map fun x:ByteArray=>x.data.toList).take i)).length+1+x.size<=2000000000:=by
        rw[hst]at hPl;simp only[List.length_append,List.length_cons,List.length_nil,len_of_size]at hPl⊢;rw[hlL];omega
       have HST:=Ih hst;have c3:=Ih (TLh.out.write hbz ⟨#[47]⟩ (by rw[size_one];omega));generalize partsP opq ((xs.map fun x:ByteArray=>x.data.toList).take i)=Pi at *;clear hst hPl hxm
       go_wp2_with fail
       refine c3.out.mono ?_;rintro e w3 ⟨rfl,T3⟩;have hr3:=Hrow.out w3 T3.below;have k6:w3.cell? ⟨w.heap.size,6,none⟩=some (.bool false):=by rw[HO.out];exact rowAt hr3 6 _ rfl
       have c4:=Ih (T3.write hbz x (by rw[List.length_append];simp only[List.length_cons,List.length_nil];omega));clear hr3 c3 T3
       go_wp2_with fail
       refine c4.out.mono ?_;rintro e w4 ⟨rfl,T4⟩
       go_wp2_with fail
       go_roundw
       case rel=>exact⟨i+1,by go_num,by omega,by rw[HST.out];simpa using T4⟩
       case measure=>simp[intOf];omega
     | true=>
       by_cases hz:i=0
       ·have hzI:((i:Int)==0)=true:=by simp[hz]
        have hst:partsP opq ((xs.map fun x:ByteArray=>x.data.toList).take (i+1))=x.data.toList:=by
         rw[<-HO.out,<-hxm];have:=partsP_zero (l:=xs.map fun x:ByteArray=>x.data.toList) (by simp;omega);simpa [hz]using this
        have hst0:partsP opq ((xs.map fun x:ByteArray=>x.data.toList).take i)=[]:=by rw[<-HO.out,hz];rfl
        rw[hst0,List.append_nil]at TLh
        have hln:L.length+x.size<=2000000000:=by
         rw[hst,len_of_size]at hPl;rw[hlL];omega
        have HST:=Ih hst;have c3:=Ih (TLh.out.write hbz x (by omega));clear hst hst0 hPl hz hxm
        go_wp2_with fail
        refine c3.out.mono ?_;rintro e w3 ⟨rfl,T3⟩
        go_wp2_with fail
        go_roundw
        case rel=>exact⟨i+1,by go_num,by omega,by rw[HST.out];exact T3⟩
        case measure=>simp[intOf];omega
       ·have hzI:((i:Int)==0)=false:=by simp;omega
        have hst:partsP opq ((xs.map fun x:ByteArray=>x.data.toList).take (i+1))=partsP opq ((xs.map fun x:ByteArray=>x.data.toList).take i):=by rw[<-HO.out];exact partsP_more (by omega)
        have HST:=Ih hst;clear hst hPl hz hxm
        go_wp2_with fail
        go_roundw
        case rel=>exact⟨i+1,by go_num,by omega,by rw[HST.out];exact TLh.out⟩
        case measure=>simp[intOf];omega
    ·have hltI:¬(i:Int)<(xs.length:Int):=by omega
     clear p6o
     go_wp2_with fail
     go_meet;have hT:=TLh.out;rw[List.take_of_length_le (by simp;omega),<-HPP.out]at hT;exact hT
 case rest=>
 have T3h:=Ih hcut;have hr3:=Hrow.out wc hcut.below;have hlP:(L++PP).length=sch.size+1+PH.length+PP.length:=by rw[List.length_append,hlL]
 generalize hLP:L++PP=LP at T3h hlP HG;clear hcut T2h p7 hLP;have p8:=rowAt hr3 8 (.bool hq) rfl;have p10:=rowAt hr3 10 (.string qry) rfl
 go_upto_if 77 with fail
 go_cut [] (fun wx=>TB b W (LP++(if hq then 63::qry.data.toList else[])) wx)
 case first=>
  cases hq with
  | true=>
    have hq1:sch.size+1+PH.length+PP.length+(1+qry.size)<=1000000000:=by have:=HSum.out;simp only[if_true]at this;omega
    have n5:¬(9223372036854775807<1+qry.size):=by omega
    have c5:=Ih (T3h.out.write hbz (⟨#[63]⟩++qry) (by simp[size_one];omega))
    go_wp2_with fail
    refine c5.out.mono ?_;rintro e w5 ⟨rfl,T5⟩;rw[append_data']at T5
    go_wp2_with fail
    go_meet;simpa using T5
  | false=>
    go_wp2_with fail
    go_meet;simpa using T3h.out
 case rest=>
 have T4h:=Ih hcut;have hr4:=Hrow.out wc hcut.below;clear hcut T3h p8 p10 hr3
 have hlQ:(LP++(if hq then 63::qry.data.toList else[])).length+(if hf then 1+frg.size else 0)<=1000000000:=by
  rw[List.length_append,hlP];have h1:(if hq then 63::qry.data.toList else[]).length=(if hq then 1+qry.size else 0):=by split<;>simp<;>omega
  have:=HSum.out;omega
 generalize hLQ:LP++(if hq then 63::qry.data.toList else[])=LQ at T4h hlQ HG;clear hLQ;have p9:=rowAt hr4 9 (.bool hf) rfl;have p11:=rowAt hr4 11 (.string frg) rfl
 go_upto_if 83 with fail
 go_cut [] (fun wx=>TB b W goal wx)
 case first=>
  cases hf with
  | true=>
    have hf1:LQ.length+(1+frg.size)<=1000000000:=by simpa using hlQ
    have n6:¬(9223372036854775807<1+frg.size):=by omega
    have c6:=Ih (T4h.out.write hbz (⟨#[35]⟩++frg) (by simp[size_one];omega))
    go_wp2_with fail
    refine c6.out.mono ?_;rintro e w6 ⟨rfl,T6⟩;rw[append_data']at T6
    go_wp2_with fail
    go_meet;rw[HG.out];simpa using T6
  | false=>
    go_wp2_with fail
    go_meet;rw[HG.out];simpa using T4h.out
 case rest=>
 have T5h:=Ih hcut;have cZ:=Ih (hcut.str hbz);clear hcut T4h p9 p11 hr4
 go_wp2_with fail
 refine cZ.out.mono ?_;rintro e w7 ⟨rfl,hb7⟩
 go_wp2_with fail
 go_ret;exact⟨_,rfl,Ih rfl,Hbel.out w7 hb7⟩
end Go.Proofs.YtjhccadmmnjpeaaGreatDoor
