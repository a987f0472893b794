/-
  lazaretref08.run: path.
-/
import Derived.Test.YtipndhbgehdeoaaGreatDoorQ39
set_option maxHeartbeats 16000000
set_option maxRecDepth 100000
namespace Go.Proofs.YtipndhbgehdeoaaGreatDoor
open Go.RowKit
theorem rd_fileH:RdOk 14 .fileH:=by
 (intro X x buf a p n i e c nx sp sl ov f w hX hU hO hI hsp hR;subst hsp;have hile:=hI.1;have hsz:=hX.size;rw[len_of_size]at hile;have wm:IntKind.i64.wrap ((i:Int)-1)=(i:Int)-1:=IntWalk.i64_in _ (by omega);have wp:IntKind.i64.wrap ((i:Int)+1)=(i:Int)+1:=IntWalk.i64_in _ (by omega);have HI:=Ih hI;have HR:=Ih hR;clear hI hR;unfold FR;conv=>(arg 2;whnf))
 clear hO;have hbz:buf.size<=i:=by have:=HI.out.2.2.1;simp only[len_of_size]at this;exact this
 cases ov with
 | false=>
   have he:=(HR.out.nover rfl).1;subst he
   (have hlt:=(Lz.Rd.no HR.out rfl).1;rw[len_of_size]at hlt;have hs1:(i:Int)+1<=(X.s.size:Int):=(by omega);have hs0:(0:Int)<=(i:Int):=(by omega);have hs2:(i:Int)<=(i:Int)+1:=(by omega);have HX:Hid ((X.s.extract i (i+1)).data.toList=[c]):=Ih (ext_one (Lz.Rd.no HR.out rfl).2.1 hlt))
   have hxz:(X.s.extract i (i+1)).size=1:=ext_sz HX.out;have hcat:¬(9223372036854775807<buf.size+(min (i+1) X.s.size-i)):=by omega
   have HN:Hid (Lz.After X.b X.s.data.toList X.goal .fileH i .fileH ⟨(buf++X.s.extract i (i+1)).data.toList,a,p,n,x.url⟩ (i:Int)):=Ih (by
    rw[snoc_data HX.out];exact Lz.w_fh_c HI.out HR.out rfl)
   clear hxz
   go_wp2_with fail
   exact⟨.fileH,_,_,_,_,_,x,_,_,_,_,_,_,_,rfl,rfl,hU,opq_no (by nofun),(by nofun),HN.out⟩
 | true=>
   have cD:=drive08_any buf w;cases hd:Lz.driveP buf.data.toList with
   | true=>
     rw[hd]at cD;have CD:=Ih cD;have HD:=Ih hd;clear hd cD hbz
     go_wp2_with fail
     refine CD.out.mono ?_;rintro _ w1 ⟨rfl,rfl⟩
     go_wp2_with fail
     exact⟨.path,_,_,_,_,_,x,_,_,_,_,_,_,_,rfl,rfl,hU,opq_no (by nofun),(by nofun),Lz.w_fh_drive HI.out HR.out rfl HD.out⟩
   | false=>
     rw[hd]at cD;have CD:=Ih cD;have HD:=Ih hd;have hE:=hU.env hX;have cP:Hid (Calls Tryz.prog 39 #[.string buf,.bool true] w fun e w'=>∃(u:ByteArray) (k:Nat),e=.returned (.tuple #[.string u,.int .i64 (k:Int)])/\Hid ((k=0->Lz.hostPr buf.data.toList true=.ok u.data.toList)/\(k≠0->Lz.hostPr buf.data.toList true=.er k))/\Below w.heap.size w w'):=Ih ((Parse07_any buf true (by omega) w hE).mono (host_k true));clear hd cD hbz hE;by_cases hb0:buf.data.toList=[]
     ·have g0:=text_yes (k:=[]) hb0;have g1:=empty_of hb0;have HB:=Ih hb0;clear hb0
      go_wp2_with fail
      refine CD.out.mono ?_;rintro _ w1 ⟨rfl,rfl⟩
      go_wp2_with fail
      exact⟨.pStart,_,_,_,_,_,x,_,_,_,_,_,_,_,rfl,rfl,hU,opq_no (by nofun),(by nofun),Lz.w_fh_none HI.out HR.out rfl HD.out HB.out⟩
     ·have g0:=text_no (k:=[]) hb0;have g1:=nonempty_of hb0;have HB:=Ih hb0;clear hb0
      go_wp2_with fail
      refine CD.out.mono ?_;rintro _ w1 ⟨rfl,rfl⟩
      go_wp2_with fail
      refine cP.out.mono ?_;rintro _ w1 ⟨u,k,rfl,hk,hb⟩;have hU1:=hU.call hX hb;clear cP hU hb CD;by_cases hk0:k=0
      ·have bk:((k:Int) != 0)=false:=by rw[hk0];rfl
       have hh:=hk.out.1 hk0;have k4:=hU1.cell 4 (.string x.hst) rfl;have z4:=hU1.fz 4;have U4:=Ih (hU1.setF hX 4 (.string u) {x with hst:=u} rfl rfl rfl);have HH:=Ih hh;clear hk hk0 hh;by_cases hlo:u.data.toList=Lz.localS
       ·have g2:=text_yes (k:=[108,111,99,97,108,104,111,115,116]) hlo;have HL:=Ih hlo;clear hlo
        go_wp2_with fail
        exact⟨.pStart,_,_,_,_,_,x,_,_,_,_,_,_,_,rfl,rfl,hU1,opq_no (by nofun),(by nofun),Lz.w_fh_loc HI.out HR.out rfl HD.out HB.out HH.out HL.out⟩
       ·have g2:=text_no (k:=[108,111,99,97,108,104,111,115,116]) hlo;have HL:=Ih hlo;clear hlo
        go_wp2_with fail
        exact⟨.pStart,_,_,_,_,_,{x with hst:=u},_,_,_,_,_,_,_,rfl,rfl,U4.out,opq_no (by nofun),(by nofun),Lz.w_fh_host HI.out HR.out rfl HD.out HB.out HH.out HL.out⟩
      ·have bk:((k:Int) != 0)=true:=by rw[bne,beq_eq_false_iff_ne.2 (by omega)];rfl
       have HG:Hid (X.goal=.er k):=Ih (Lz.w_fh_er HI.out HR.out rfl HD.out HB.out (hk.out.2 hk0));have HN0:=Ih hU1.non;have HB0:=Ih hU1.res;clear hk0 hk
       go_wp2_with (first |(refine wpList_load_row rfl 25 (.tmp 7) rfl X.N rfl 25 zeroC (0,0) _ HN0.out Tryz.underlying25 rfl urlSize ?_)|(refine wpList_store_row rfl 25 (.tmp 4) (.tmp 611) rfl X.B zeroC rfl rfl 25 zeroC HB0.out urlSize rfl (by simp[Value.oneCell']) ?_))
       exact⟨k,_,_,_,_,_,HG.out,rfl,rfl,below_setRow hU1.below (Nat.le_refl _),setRow_heap _ _ _ _ _ _ HB0.out⟩
theorem grown_row {w w':World} {row:Option Nat} {B M:Nat} {cs:Array Value} {fr:Nat×Nat} (hM:w.heap[M]? =some (.cells cs 25 fr)) (hg:w.grownBy w' row) (hr:RowOk B w row):w'.heap[M]? =some (.cells cs 25 fr):=by
 rw[hg.block M (row_lt hM) (fun e=>?_)]
 ·exact hM
 ·obtain⟨_,cur,fr',h1⟩:=hr M e.symm;rw[hM]at h1;injection h1 with h1
  injection h1 with _ h2 _
  exact url_ne h2
theorem UAt.app {X:RX} {w w':World} {x:MkV} (hX:X.Ok) (h:UAt X w x) (p:ByteArray) {g:Addr} {n' c':Nat} {row:Option Nat} (hown:PathOwn w' X.B (.slice (some g) n' c') (x.xs++[p]))
  (hg:(w.alloc (.cells #[.string p] 9)).grownBy w' row) (hr:RowOk X.B (w.alloc (.cells #[.string p] 9)) row):
  w'.cell? ⟨X.M,7,none⟩=some x.pv/\w'.frozen? ⟨X.M,7,none⟩=false/\UAt X (w'.setCell ⟨X.M,7,none⟩ (.slice (some g) n' c')) {x with pv:=.slice (some g) n' c',xs:=x.xs++[p]}:=by
 have ha:=h.call hX ((Below.refl _ w).alloc (Nat.le_refl _) (.cells #[.string p] 9));have hM:=grown_row ha.row hg hr;have hb:Below X.B X.w0 w':=below_grownP ha.below hg (ha.hB hX) hr;refine⟨rowAt hM 7 _ rfl,rowFz hM 7,?_⟩;have hbm:=hX.bm;have hmn:=hX.mn;exact⟨hb.setCell (p:=⟨X.M,7,none⟩) (Nat.le_of_lt hX.bm) _,by rw[setCell_other (by show X.B≠X.M;omega)];exact grown_row ha.res hg hr,rowSet hM 7 _ rfl,by rw[setCell_other (by show X.N≠X.M;omega)];exact grown_row ha.non hg hr,hown.setCell hM url_ne 7 _⟩
def P2d (sc:List UInt8) (path:List (List UInt8)) (D:Nat):List (List UInt8):=if D=2 then Lz.shortP sc path else path
def P3d (sc:List UInt8) (path:List (List UInt8)) (D:Nat) (m:Bool):List (List UInt8):=if(D=1\/D=2)/\m=false then P2d sc path D++[[]]else P2d sc path D
theorem stepQ_D {sc:List UInt8} {path:List (List UInt8)} {q:List UInt8} {m:Bool} {D:Nat} (hD:D=Lz.dotC q):
  (if D≠1/\D≠2 then P3d sc path D m++[if sc=Lz.fileS/\P3d sc path D m=[]/\Lz.driveP q=true then q.take 1++[58]else q]else P3d sc path D m)=Lz.stepQ sc path q m:=by
 unfold P3d P2d;obtain⟨h1,h2⟩:=Lz.dotC_eq q;unfold Lz.stepQ;by_cases k2:D=2
 ·have:Lz.dotsP q=2:=h2.1 (by rw[<-hD,k2])
  simp[k2,this]
 ·have n2:¬Lz.dotsP q=2:=fun h=>k2 (by rw[hD,h2.2 h]);by_cases k1:D=1
  ·have:Lz.dotsP q=1:=h1.1 (by rw[<-hD,k1])
   simp[k1,this]
  ·have n1:¬Lz.dotsP q=1:=fun h=>k1 (by rw[hD,h1.2 h])
   simp[k1,k2,n1,n2]
def PthAt (X:RX) (x:MkV) (w:World) (P:List (List UInt8)) (L:Nat):Prop:=∃(v:Value) (ys:List ByteArray),UAt X w {x with pv:=v,xs:=ys}/\Hid (ys.map (fun x:ByteArray=>x.data.toList)=P)/\ys.length<=L
theorem rd_path:RdOk 16 .path:=by
 (intro X x buf a p n i e c nx sp sl ov f w hX hU hO hI hsp hR;subst hsp;have hile:=hI.1;have hsz:=hX.size;rw[len_of_size]at hile;have wm:IntKind.i64.wrap ((i:Int)-1)=(i:Int)-1:=IntWalk.i64_in _ (by omega);have wp:IntKind.i64.wrap ((i:Int)+1)=(i:Int)+1:=IntWalk.i64_in _ (by omega);have HI:=Ih hI;have HR:=Ih hR;clear hI hR;unfold FR;conv=>(arg 2;whnf))
 clear hO;have hbz:buf.size<=3*i:=by have:=HI.out.2.2.2.1;simp only[len_of_size]at this;exact this
 have hpl:x.xs.length<=1000000+i:=by have:=HI.out.2.2.1;simpa [MkV.url]using this
 cases ov with
 | false=>
   have he:=(HR.out.nover rfl).1;subst he
   (have hlt:=(Lz.Rd.no HR.out rfl).1;rw[len_of_size]at hlt;have hs1:(i:Int)+1<=(X.s.size:Int):=(by omega);have hs0:(0:Int)<=(i:Int):=(by omega);have hs2:(i:Int)<=(i:Int)+1:=(by omega);have HX:Hid ((X.s.extract i (i+1)).data.toList=[c]):=Ih (ext_one (Lz.Rd.no HR.out rfl).2.1 hlt))
   have cE:=Ih (Encode06_any (X.s.extract i (i+1)) 4 (by omega) (by rw[ext_sz HX.out];omega) w)
   go_wp2_with fail
   refine cE.out.mono ?_;rintro _ w1 ⟨u,rfl,hu,hb⟩;have hU1:=hU.call hX hb;have hus:u.size<=3:=enc_sz (by rw[hu.out,HX.out]);have hcat:¬(9223372036854775807<buf.size+u.size):=by omega
   have HN:Hid (Lz.After X.b X.s.data.toList X.goal .path i .path ⟨(buf++u).data.toList,a,p,n,x.url⟩ (i:Int)):=Ih (by
    rw[append_data',hu.out,HX.out];exact Lz.w_path_c HI.out HR.out rfl)
   clear hus hu hb cE
   go_wp2_with fail
   exact⟨.path,_,_,_,_,_,x,_,_,_,_,_,_,_,rfl,rfl,hU1,opq_no (by nofun),(by nofun),HN.out⟩
 | true=>
   obtain⟨D,hD⟩:∃D,D=Lz.dotC buf.data.toList:=⟨_,rfl⟩;have cD:=dots08_any buf (by omega) w;rw[<-hD]at cD;have CD:=Ih cD;have HD:=Ih hD;clear cD hD;refine cutR (fun a' w'=>w=w'/\∃l:List Value,l.length=761/\a'=stL X (nmB .path) buf a p n i e c nx (Lz.specP x.url.scheme) sl true l/\l[618]? =some (.bool true)) ?_ ?_
   ·go_wp2_with fail
    exact⟨_,rfl,rfl,rfl⟩
   rintro _ _ ⟨rfl,l,hl,rfl,hv⟩;refine reframe X _ _ _ _ _ _ _ _ _ _ _ _ l hl (fun f hf=>?_);refine wp_cond_true (hf _ _ hv) ?_;clear hv hl hf;unfold FR;refine cutR (fun a' w'=>UAt X w' x/\∃l:List Value,l.length=761/\a'=stL X (nmB .path) buf a p n i e c nx (Lz.specP x.url.scheme) sl true l/\l[6]? =some (.int .i64 (D:Int))) ?_ ?_
   ·go_wp2_with fail
    refine CD.out.mono ?_;rintro _ w1 ⟨rfl,hb⟩;have hU1:=Ih (hU.call hX hb);clear hb CD
    go_wp2_with fail
    exact⟨hU1.out,_,rfl,rfl,rfl⟩
   clear hU CD l f;rintro _ w1 ⟨hU,l,hl,rfl,hv⟩;refine reframe X _ _ _ _ _ _ _ _ _ _ _ _ l hl (fun f hf=>?_);have h26:f 26=.int .i64 (D:Int):=hf _ _ hv;clear hv hl hf;unfold FR;rw[h26];clear h26;refine cutR (fun a' w'=>PthAt X x w' (P2d x.url.scheme x.url.path D) (1000000+i)/\∃l:List Value,l.length=761/\a'=stL X (nmB .path) buf a p n i e c nx (Lz.specP x.url.scheme) sl true l/\l[6]? =some (.int .i64 (D:Int))) ?_ ?_
   ·by_cases hD2:D=2
    ·have b2:((D:Int)==2)=true:=by rw[hD2];rfl
     rw[show P2d x.url.scheme x.url.path D=Lz.shortP x.url.scheme x.url.path from if_pos hD2];clear hD2;have cS:=Ih (shorten08_any X.B x.sch x.pv x.xs w1 hU.own (hU.hB hX) (by omega));have k0:=hU.cell 0 (.string x.sch) rfl;have k7:=hU.cell 7 x.pv rfl
     go_wp2_with fail
     refine cS.out.mono ?_;rintro _ w2 ⟨a3,n3,c3,ys,rfl,hys,hown,hb⟩;have hU2:=hU.call hX hb;have k7:=hU2.cell 7 x.pv rfl;have z7:=hU2.fz 7;have U3:=Ih (hU2.set hX 7 (.slice a3 n3 c3) (x':={x with pv:=.slice a3 n3 c3,xs:=ys}) rfl hown);have HY:=Ih hys
     have hyl:ys.length<=1000000+i:=by
      have:=Lz.short_len x.sch.data.toList (x.xs.map (fun x:ByteArray=>x.data.toList));rw[<-hys,List.length_map,List.length_map]at this;omega
     clear hys hown hb cS
     go_wp2_with fail
     exact⟨⟨_,ys,U3.out,HY,hyl⟩,_,rfl,rfl,rfl⟩
    ·have b2:((D:Int)==2)=false:=by rw[beq_eq_false_iff_ne];omega
     rw[show P2d x.url.scheme x.url.path D=x.url.path from if_neg hD2];clear hD2
     go_wp2_with fail
     exact⟨⟨x.pv,x.xs,hU,Ih rfl,hpl⟩,_,rfl,rfl,rfl⟩
   clear hU hpl l f;rintro _ w2 ⟨⟨v,ys,hU,HY,hyl⟩,l,hl,rfl,hv⟩;refine reframe X _ _ _ _ _ _ _ _ _ _ _ _ l hl (fun f hf=>?_);have h26:f 26=.int .i64 (D:Int):=hf _ _ hv;clear hv hl hf;unfold FR;rw[h26];clear h26;refine cutR (fun a' w'=>PthAt X x w' (P3d x.url.scheme x.url.path D sl) (1000001+i)/\∃l:List Value,l.length=761/\a'=stL X (nmB .path) buf a p n i e c nx (Lz.specP x.url.scheme) sl true l/\l[6]? =some (.int .i64 (D:Int))) ?_ ?_
   ·by_cases hD1:D=1
    ·have b1:((D:Int)==1)=true:=by rw[hD1];rfl
     cases sl with
     | true=>
       rw[show P3d x.url.scheme x.url.path D true=P2d x.url.scheme x.url.path D from if_neg (by simp)];clear hD1
       go_wp2_with fail
       exact⟨⟨v,ys,hU,HY,by omega⟩,_,rfl,rfl,rfl⟩
     | false=>
       rw[show P3d x.url.scheme x.url.path D false=P2d x.url.scheme x.url.path D++[[]]from if_pos ⟨.inl hD1,rfl⟩];clear hD1;have k7:=hU.cell 7 v rfl;have HY2:Hid ((ys++[(⟨#[]⟩:ByteArray)]).map (fun x:ByteArray=>x.data.toList)=(P2d x.url.scheme x.url.path D)++[[]]):=Ih (by rw[List.map_append,HY.out];rfl);have hyl2:(ys++[(⟨#[]⟩:ByteArray)]).length<=1000001+i:=by simp;omega
       have hoa:=hU.own.below ((Below.refl _ w2).alloc (Nat.le_refl _) (.cells #[.string ⟨#[]⟩] 9))
       go_wp2_with (at_builtin;refine wpList_append_path _ rfl (.tmp 660) (.tmp 661) rfl X.B _ ys rfl hoa ⟨w2.heap.size,0,none⟩ 1 ⟨#[]⟩ rfl (cell_one _ _ _ 0 _ rfl) (by omega) (by have:=hU.hB hX;simp;omega) ?_)
       intro g7 n7 c7 w5 row hown5 hg hrow;obtain⟨k75,z75,U5⟩:=hU.app hX ⟨#[]⟩ hown5 hg hrow;have U6:=Ih U5;clear hown5 hg hrow U5 hoa
       go_wp2_with fail
       exact⟨⟨_,_,U6.out,HY2,hyl2⟩,_,rfl,rfl,rfl⟩
    ·have b1:((D:Int)==1)=false:=by rw[beq_eq_false_iff_ne];omega
     by_cases hD2:D=2
     ·have b2:((D:Int)==2)=true:=by rw[hD2];rfl
      cases sl with
      | true=>
        rw[show P3d x.url.scheme x.url.path D true=P2d x.url.scheme x.url.path D from if_neg (by simp)];clear hD1 hD2
        go_wp2_with fail
        exact⟨⟨v,ys,hU,HY,by omega⟩,_,rfl,rfl,rfl⟩
      | false=>
        rw[show P3d x.url.scheme x.url.path D false=P2d x.url.scheme x.url.path D++[[]]from if_pos ⟨.inr hD2,rfl⟩];clear hD1 hD2;have k7:=hU.cell 7 v rfl;have HY2:Hid ((ys++[(⟨#[]⟩:ByteArray)]).map (fun x:ByteArray=>x.data.toList)=(P2d x.url.scheme x.url.path D)++[[]]):=Ih (by rw[List.map_append,HY.out];rfl);have hyl2:(ys++[(⟨#[]⟩:ByteArray)]).length<=1000001+i:=by simp;omega
        have hoa:=hU.own.below ((Below.refl _ w2).alloc (Nat.le_refl _) (.cells #[.string ⟨#[]⟩] 9))
        go_wp2_with (at_builtin;refine wpList_append_path _ rfl (.tmp 660) (.tmp 661) rfl X.B _ ys rfl hoa ⟨w2.heap.size,0,none⟩ 1 ⟨#[]⟩ rfl (cell_one _ _ _ 0 _ rfl) (by omega) (by have:=hU.hB hX;simp;omega) ?_)
        intro g7 n7 c7 w5 row hown5 hg hrow;obtain⟨k75,z75,U5⟩:=hU.app hX ⟨#[]⟩ hown5 hg hrow;have U6:=Ih U5;clear hown5 hg hrow U5 hoa
        go_wp2_with fail
        exact⟨⟨_,_,U6.out,HY2,hyl2⟩,_,rfl,rfl,rfl⟩
     ·have b2:((D:Int)==2)=false:=by rw[beq_eq_false_iff_ne];omega
      rw[show P3d x.url.scheme x.url.path D sl=P2d x.url.scheme x.url.path D from if_neg (fun h=>h.1.elim hD1 hD2)];clear hD1 hD2
      go_wp2_with fail
      exact⟨⟨v,ys,hU,HY,by omega⟩,_,rfl,rfl,rfl⟩
   clear hU l f;rintro _ w3 ⟨⟨v,ys,hU,HY,hyl⟩,l,hl,rfl,hv⟩;refine reframe X _ _ _ _ _ _ _ _ _ _ _ _ l hl (fun f hf=>?_);have h26:f 26=.int .i64 (D:Int):=hf _ _ hv;clear hv hl hf;unfold FR;rw[h26];clear h26;have hSt:=stepQ_D (sc:=x.url.scheme) (path:=x.url.path) (m:=sl) HD.out;refine cutR (fun a' w'=>PthAt X x w' (Lz.stepQ x.url.scheme x.url.path buf.data.toList sl) (1000002+i)/\∃(buf2:ByteArray) (l:List Value),l.length=761/\a'=stL X (nmB .path) buf2 a p n i e c nx (Lz.specP x.url.scheme) sl true l) ?_ ?_
   ·by_cases hDD:D≠1/\D≠2
    ·have b1:((D:Int) != 1)=true:=by rw[bne,beq_eq_false_iff_ne.2 (by omega)];rfl
     have b2:((D:Int) != 2)=true:=by rw[bne,beq_eq_false_iff_ne.2 (by omega)];rfl
     rw[if_pos hDD,<-HY.out]at hSt;clear hDD;obtain⟨av,cv,hv7,hcv,hcells⟩:=hU.own.form;replace hv7:v=.slice av ys.length cv:=hv7;subst hv7;have k7:=hU.cell 7 (.slice av ys.length cv) rfl;have k0:=hU.cell 0 (.string x.sch) rfl;clear hcells hcv
     have fin:∀pb:ByteArray,pb.data.toList=(if x.url.scheme=Lz.fileS/\ys.map (fun x:ByteArray=>x.data.toList)=[]/\Lz.driveP buf.data.toList=true then buf.data.toList.take 1++[58]else buf.data.toList)->(ys++[pb]).map (fun x:ByteArray=>x.data.toList)=Lz.stepQ x.url.scheme x.url.path buf.data.toList sl:=by
      intro pb hpb;rw[<-hSt,List.map_append,<-hpb];rfl
     have hyl3:∀pb:ByteArray,(ys++[pb]).length<=1000002+i:=by intro pb;simp;omega
     have HF:=Ih fin;have HY3:=Ih hyl3;clear fin hSt hyl3;by_cases hf0:x.sch.data.toList=Lz.fileS
     ·have g0:=text_yes (k:=[102,105,108,101]) hf0;by_cases he0:ys=[]
      ·have e0:((ys.length:Int)==0)=true:=by rw[he0];rfl
       have cR:=drive08_any buf w3;cases hdr:Lz.driveP buf.data.toList with
       | true=>
         have hz:=drive_size hdr;rw[len_of_size]at hz
         have HP:Hid ((ys++[buf.extract 0 1++⟨#[58]⟩]).map (fun x:ByteArray=>x.data.toList)=Lz.stepQ x.url.scheme x.url.path buf.data.toList sl):=Ih (HF.out _ (by
          rw[if_pos ⟨hf0,by rw[he0];rfl,hdr⟩,append_data',extract_head2]))
         have hz1:(1:Int)<=(buf.size:Int):=by omega
         have hcat:¬(9223372036854775807<min 1 buf.size+1):=by omega
         rw[hdr]at cR;have CR:=Ih cR;have HLN:=Ih (HY3.out (buf.extract 0 1++⟨#[58]⟩));clear hf0 he0 hdr cR HF HY3 hz
         go_wp2_with fail
         refine CR.out.mono ?_;rintro _ w4 ⟨rfl,rfl⟩;have hoa:=hU.own.below ((Below.refl _ w3).alloc (Nat.le_refl _) (.cells #[.string (buf.extract 0 1++⟨#[58]⟩)] 9))
         go_wp2_with (at_builtin;refine wpList_append_path _ rfl (.tmp 687) (.tmp 689) rfl X.B _ ys rfl hoa ⟨w3.heap.size,0,none⟩ 1 (buf.extract 0 1++⟨#[58]⟩) rfl (cell_one _ _ _ 0 _ rfl) (by omega) (by have:=hU.hB hX;simp;omega) ?_)
         intro g7 n7 c7 w5 row hown5 hg hrow;obtain⟨k75,z75,U5⟩:=hU.app hX (buf.extract 0 1++⟨#[58]⟩) hown5 hg hrow;have U6:=Ih U5;clear hown5 hg hrow U5 hoa
         go_wp2_with fail
         exact⟨⟨_,_,U6.out,HP,HLN.out⟩,_,_,rfl,rfl⟩
       | false=>
         have HP:Hid ((ys++[buf]).map (fun x:ByteArray=>x.data.toList)=Lz.stepQ x.url.scheme x.url.path buf.data.toList sl):=Ih (HF.out _ (by
          rw[if_neg (by rw[hdr];simp)]))
         rw[hdr]at cR;have CR:=Ih cR;have HLN:=Ih (HY3.out buf);clear hf0 he0 hdr cR HF HY3
         go_wp2_with fail
         refine CR.out.mono ?_;rintro _ w4 ⟨rfl,rfl⟩;have hoa:=hU.own.below ((Below.refl _ w3).alloc (Nat.le_refl _) (.cells #[.string buf] 9))
         go_wp2_with (at_builtin;refine wpList_append_path _ rfl (.tmp 687) (.tmp 689) rfl X.B _ ys rfl hoa ⟨w3.heap.size,0,none⟩ 1 buf rfl (cell_one _ _ _ 0 _ rfl) (by omega) (by have:=hU.hB hX;simp;omega) ?_)
         intro g7 n7 c7 w5 row hown5 hg hrow;obtain⟨k75,z75,U5⟩:=hU.app hX buf hown5 hg hrow;have U6:=Ih U5;clear hown5 hg hrow U5 hoa
         go_wp2_with fail
         exact⟨⟨_,_,U6.out,HP,HLN.out⟩,_,_,rfl,rfl⟩
      ·have e0:((ys.length:Int)==0)=false:=by
        rw[beq_eq_false_iff_ne];intro h;exact he0 (List.eq_nil_of_length_eq_zero (by omega))
       have HP:Hid ((ys++[buf]).map (fun x:ByteArray=>x.data.toList)=Lz.stepQ x.url.scheme x.url.path buf.data.toList sl):=Ih (HF.out _ (by
        rw[if_neg (fun h=>he0 (List.map_eq_nil_iff.1 h.2.1))]))
       have HLN:=Ih (HY3.out buf);clear hf0 he0 HF HY3;have hoa:=hU.own.below ((Below.refl _ w3).alloc (Nat.le_refl _) (.cells #[.string buf] 9))
       go_wp2_with (at_builtin;refine wpList_append_path _ rfl (.tmp 687) (.tmp 689) rfl X.B _ ys rfl hoa ⟨w3.heap.size,0,none⟩ 1 buf rfl (cell_one _ _ _ 0 _ rfl) (by omega) (by have:=hU.hB hX;simp;omega) ?_)
       intro g7 n7 c7 w5 row hown5 hg hrow;obtain⟨k75,z75,U5⟩:=hU.app hX buf hown5 hg hrow;have U6:=Ih U5;clear hown5 hg hrow U5 hoa
       go_wp2_with fail
       exact⟨⟨_,_,U6.out,HP,HLN.out⟩,_,_,rfl,rfl⟩
     ·have g0:=text_no (k:=[102,105,108,101]) hf0
      have HP:Hid ((ys++[buf]).map (fun x:ByteArray=>x.data.toList)=Lz.stepQ x.url.scheme x.url.path buf.data.toList sl):=Ih (HF.out _ (by
       rw[if_neg (fun h=>hf0 h.1)]))
      have HLN:=Ih (HY3.out buf);clear hf0 HF HY3;have hoa:=hU.own.below ((Below.refl _ w3).alloc (Nat.le_refl _) (.cells #[.string buf] 9))
      go_wp2_with (at_builtin;refine wpList_append_path _ rfl (.tmp 687) (.tmp 689) rfl X.B _ ys rfl hoa ⟨w3.heap.size,0,none⟩ 1 buf rfl (cell_one _ _ _ 0 _ rfl) (by omega) (by have:=hU.hB hX;simp;omega) ?_)
      intro g7 n7 c7 w5 row hown5 hg hrow;obtain⟨k75,z75,U5⟩:=hU.app hX buf hown5 hg hrow;have U6:=Ih U5;clear hown5 hg hrow U5 hoa
      go_wp2_with fail
      exact⟨⟨_,_,U6.out,HP,HLN.out⟩,_,_,rfl,rfl⟩
    ·rw[if_neg hDD]at hSt;have HP:Hid (ys.map (fun x:ByteArray=>x.data.toList)=Lz.stepQ x.url.scheme x.url.path buf.data.toList sl):=Ih (HY.out.trans hSt);have hyl2:ys.length<=1000002+i:=by omega
     by_cases hD1:D=1
     ·have b1:((D:Int) != 1)=false:=by rw[hD1];rfl
      clear hDD hD1 hSt
      go_wp2_with fail
      exact⟨⟨v,ys,hU,HP,hyl2⟩,buf,_,rfl,rfl⟩
     ·have hD2:D=2:=by omega
      have b1:((D:Int) != 1)=true:=by rw[hD2];rfl
      have b2:((D:Int) != 2)=false:=by rw[hD2];rfl
      clear hDD hD1 hD2 hSt
      go_wp2_with fail
      exact⟨⟨v,ys,hU,HP,hyl2⟩,buf,_,rfl,rfl⟩
   clear hU HY hyl l f hSt;rintro _ w4 ⟨⟨v,ys,hU,HY,hyl⟩,buf2,l,hl,rfl⟩;refine reframe X _ _ _ _ _ _ _ _ _ _ _ _ l hl (fun f hf=>?_);clear hl hf hyl hbz;unfold FR;by_cases h63:c=63
   ·have hsl:sl=false:=by
     subst h63;have:=(HR.out.some (by decide)).2.2.2.2.1;rw[this];exact(Lz.slash_q _).1
    subst hsl;have b63:((c.toNat:Int)==63)=true:=bq_y h63;have b35:((c.toNat:Int)==35)=false:=bq_n (show ¬c=35 by rw[h63];decide)
    have HN:Hid (Lz.After X.b X.s.data.toList X.goal .path i .query ⟨[],a,p,n,MkV.url {x with pv:=v,xs:=ys,hq:=true}⟩ (i:Int)):=Ih (by
     show Lz.After _ _ _ _ _ _ ⟨_,_,_,_,{x.url with path:=ys.map (fun x:ByteArray=>x.data.toList),hasQuery:=true}⟩ _;rw[HY.out];exact Lz.w_path_q HI.out HR.out h63)
    have k8:=hU.cell 8 (.bool x.hq) rfl;have z8:=hU.fz 8;have U8:=Ih (hU.setF hX 8 (.bool true) {x with pv:=v,xs:=ys,hq:=true} rfl rfl rfl);clear h63
    go_wp2_with fail
    exact⟨.query,_,_,_,_,_,{x with pv:=v,xs:=ys,hq:=true},_,_,_,_,_,_,_,rfl,rfl,U8.out,opq_no (by nofun),(by nofun),HN.out⟩
   ·have b63:((c.toNat:Int)==63)=false:=bq_n h63;by_cases h35:c=35
    ·have hsl:sl=false:=by
      subst h35;have:=(HR.out.some (by decide)).2.2.2.2.1;rw[this];exact(Lz.slash_q _).2
     subst hsl;have b35:((c.toNat:Int)==35)=true:=bq_y h35
     have HN:Hid (Lz.After X.b X.s.data.toList X.goal .path i .frag ⟨[],a,p,n,MkV.url {x with pv:=v,xs:=ys,hf:=true}⟩ (i:Int)):=Ih (by
      show Lz.After _ _ _ _ _ _ ⟨_,_,_,_,{x.url with path:=ys.map (fun x:ByteArray=>x.data.toList),hasFragment:=true}⟩ _;rw[HY.out];exact Lz.w_path_f HI.out HR.out h35)
     have k9:=hU.cell 9 (.bool x.hf) rfl;have z9:=hU.fz 9;have U9:=Ih (hU.setF hX 9 (.bool true) {x with pv:=v,xs:=ys,hf:=true} rfl rfl rfl);clear h35 h63
     go_wp2_with fail
     exact⟨.frag,_,_,_,_,_,{x with pv:=v,xs:=ys,hf:=true},_,_,_,_,_,_,_,rfl,rfl,U9.out,opq_no (by nofun),(by nofun),HN.out⟩
    ·have b35:((c.toNat:Int)==35)=false:=bq_n h35
     have HN:Hid (Lz.After X.b X.s.data.toList X.goal .path i .path ⟨[],a,p,n,MkV.url {x with pv:=v,xs:=ys}⟩ (i:Int)):=Ih (by
      show Lz.After _ _ _ _ _ _ ⟨_,_,_,_,{x.url with path:=ys.map (fun x:ByteArray=>x.data.toList)}⟩ _;rw[HY.out];cases sl with
      | true=>exact Lz.w_path_sl HI.out HR.out rfl
      | false=>
        have he:e=true:=by
         rcases HR.out with h|h
         ·exact h.1
         ·have h1:=h.2.2.2.2.2;have h2:=h.2.2.2.2.1;unfold Lz.overQ at h1;rw[<-h2,beq_eq_false_iff_ne.2 h63,beq_eq_false_iff_ne.2 h35]at h1;exact absurd h1 (by simp)
        exact Lz.w_path_end HI.out HR.out he)
     clear h35 h63
     go_wp2_with fail
     exact⟨.path,_,_,_,_,_,{x with pv:=v,xs:=ys},_,_,_,_,_,_,_,rfl,rfl,hU,opq_no (by nofun),(by nofun),HN.out⟩
end Go.Proofs.YtipndhbgehdeoaaGreatDoor
