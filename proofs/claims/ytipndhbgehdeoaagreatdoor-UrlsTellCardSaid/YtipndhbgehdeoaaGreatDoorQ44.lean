/-
  lazaretref08.run: the switch over the states.
-/
import Derived.Test.YtipndhbgehdeoaaGreatDoorQ40
import Derived.Test.YtipndhbgehdeoaaGreatDoorQ41
import Derived.Test.YtipndhbgehdeoaaGreatDoorQ35
import Derived.Test.YtipndhbgehdeoaaGreatDoorQ42
import Derived.Test.YtipndhbgehdeoaaGreatDoorQ43
set_option maxHeartbeats 4000000
set_option maxRecDepth 100000
namespace Go.Proofs.YtipndhbgehdeoaaGreatDoor
open Go.RowKit
def idxS:Lz.Stt->Nat
 | .start=>0
 | .scheme=>1
 | .none=>2
 | .spRel=>3
 | .pa=>4
 | .rel=>5
 | .relS=>6
 | .spSl=>7
 | .ign=>8
 | .auth=>9
 | .host=>10
 | .port=>11
 | .file=>12
 | .fileS=>13
 | .fileH=>14
 | .pStart=>15
 | .path=>16
 | .opq=>17
 | .query=>18
 | .frag=>19
def ChOk (k:Nat) (st:Lz.Stt):Prop:=∀(X:RX) (x:MkV) (buf:ByteArray) (a p n:Bool) (i:Nat) (e:Bool) (c nx:UInt8) (sp sl ov:Bool) (f:Nat->Value) (w:World),
 X.Ok->UAt X w x->OpqW X st w x->Lz.InvM X.b X.s.data.toList X.goal ⟨buf.data.toList,a,p,n,x.url⟩ i st->sp=Lz.specP x.url.scheme->Lz.Rd X.s.data.toList sp i e c nx sl ov->f 73=.string (nmB st)->
 (runC Tryz.f19.body k).wp Tryz.prog (SwPost X st i) (FR (.string X.s) X.bv undef undef (.pointer (some ⟨X.B,0,none⟩)) (.int .i64 0) (.pointer (some ⟨X.M,0,none⟩)) (.pointer (some ⟨X.N,0,none⟩)) (.string (nmB st)) (.string buf) (.bool a) (.bool p) (.bool n) (.int .i64 i) (.bool e) (.int .u8 c.toNat) (.int .u8 nx.toNat) (.bool sp) (.bool sl) (.bool ov) f) w
theorem st_of_idx:∀(st:Lz.Stt) (k:Nat) (st':Lz.Stt),idxS st=k->idxS st'=k->st=st':=by
 intro st k st' h1 h2;subst h1;cases st<;>cases st'<;>first |rfl|(exfalso;revert h2;decide)
theorem ch_19 (st:Lz.Stt) (hk:19<=idxS st):ChOk 19 st:=by
 intro X x buf a p n i e c nx sp sl ov f w hX hU hO hI hsp hR h73;obtain⟨q,hq⟩:∃q,q=decide (idxS st=19):=⟨_,rfl⟩;have g0:((nmB st).toList==[102,114,97,103,109,101,110,116])=q:=by rw[text_is,hq];cases st<;>rfl
 obtain⟨r,hc⟩:∃r:Code,runC Tryz.f19.body 19=.seq r (.cond (.tmp 762) (runArm Tryz.f19.body 19) (runC Tryz.f19.body 20))/\r=cd1 (runC Tryz.f19.body 19):=⟨_,rfl,rfl⟩;obtain⟨hc,hr⟩:=hc;rw[hc];refine cutR (fun a' w'=>w=w'/\∃l:List Value,l.length=761/\a'=stL X (nmB st) buf a p n i e c nx sp sl ov l/\l[742]? =some (.bool q)/\l[53]? =some (.string (nmB st))) ?_ ?_
 ·rw[hr];unfold FR;rw[h73];have HQ:=Ih hq;clear hU hO hI hsp hR h73 hc hr hq hk
  conv=>arg 2;whnf
  go_wp2_with fail
  exact⟨_,rfl,rfl,rfl,rfl⟩
 rintro _ _ ⟨rfl,l,hl,rfl,hv,hv2⟩;refine reframe X _ _ _ _ _ _ _ _ _ _ _ _ l hl (fun f hf=>?_);cases q with
 | true=>
   refine wp_cond_true (hf _ _ hv) ?_;obtain rfl:=st_of_idx st 19 .frag (of_decide_eq_true hq.symm) rfl;exact rd_frag X x buf a p n i e c nx sp sl ov f w hX hU hO hI hsp hR
 | false=>
   refine wp_cond_false (hf _ _ hv) ?_
   exfalso
   have h1:=of_decide_eq_false hq.symm
   revert h1 hk
   cases st<;>simp[idxS]
theorem ch_18 (st:Lz.Stt) (hk:18<=idxS st):ChOk 18 st:=by
 intro X x buf a p n i e c nx sp sl ov f w hX hU hO hI hsp hR h73;obtain⟨q,hq⟩:∃q,q=decide (idxS st=18):=⟨_,rfl⟩;have g0:((nmB st).toList==[113,117,101,114,121])=q:=by rw[text_is,hq];cases st<;>rfl
 obtain⟨r,hc⟩:∃r:Code,runC Tryz.f19.body 18=.seq r (.cond (.tmp 730) (runArm Tryz.f19.body 18) (runC Tryz.f19.body 19))/\r=cd1 (runC Tryz.f19.body 18):=⟨_,rfl,rfl⟩;obtain⟨hc,hr⟩:=hc;rw[hc];refine cutR (fun a' w'=>w=w'/\∃l:List Value,l.length=761/\a'=stL X (nmB st) buf a p n i e c nx sp sl ov l/\l[710]? =some (.bool q)/\l[53]? =some (.string (nmB st))) ?_ ?_
 ·rw[hr];unfold FR;rw[h73];have HQ:=Ih hq;clear hU hO hI hsp hR h73 hc hr hq hk
  conv=>arg 2;whnf
  go_wp2_with fail
  exact⟨_,rfl,rfl,rfl,rfl⟩
 rintro _ _ ⟨rfl,l,hl,rfl,hv,hv2⟩;refine reframe X _ _ _ _ _ _ _ _ _ _ _ _ l hl (fun f hf=>?_);cases q with
 | true=>
   refine wp_cond_true (hf _ _ hv) ?_;obtain rfl:=st_of_idx st 18 .query (of_decide_eq_true hq.symm) rfl;exact rd_query X x buf a p n i e c nx sp sl ov f w hX hU hO hI hsp hR
 | false=>
   refine wp_cond_false (hf _ _ hv) ?_;exact ch_19 st (by have:=of_decide_eq_false hq.symm;omega) X x buf a p n i e c nx sp sl ov f w hX hU hO hI hsp hR (hf 53 _ hv2)
theorem ch_17 (st:Lz.Stt) (hk:17<=idxS st):ChOk 17 st:=by
 intro X x buf a p n i e c nx sp sl ov f w hX hU hO hI hsp hR h73;obtain⟨q,hq⟩:∃q,q=decide (idxS st=17):=⟨_,rfl⟩;have g0:((nmB st).toList==[111,112,97,113,117,101])=q:=by rw[text_is,hq];cases st<;>rfl
 obtain⟨r,hc⟩:∃r:Code,runC Tryz.f19.body 17=.seq r (.cond (.tmp 706) (runArm Tryz.f19.body 17) (runC Tryz.f19.body 18))/\r=cd1 (runC Tryz.f19.body 17):=⟨_,rfl,rfl⟩;obtain⟨hc,hr⟩:=hc;rw[hc];refine cutR (fun a' w'=>w=w'/\∃l:List Value,l.length=761/\a'=stL X (nmB st) buf a p n i e c nx sp sl ov l/\l[686]? =some (.bool q)/\l[53]? =some (.string (nmB st))) ?_ ?_
 ·rw[hr];unfold FR;rw[h73];have HQ:=Ih hq;clear hU hO hI hsp hR h73 hc hr hq hk
  conv=>arg 2;whnf
  go_wp2_with fail
  exact⟨_,rfl,rfl,rfl,rfl⟩
 rintro _ _ ⟨rfl,l,hl,rfl,hv,hv2⟩;refine reframe X _ _ _ _ _ _ _ _ _ _ _ _ l hl (fun f hf=>?_);cases q with
 | true=>
   refine wp_cond_true (hf _ _ hv) ?_;obtain rfl:=st_of_idx st 17 .opq (of_decide_eq_true hq.symm) rfl;exact rd_opq X x buf a p n i e c nx sp sl ov f w hX hU hO hI hsp hR
 | false=>
   refine wp_cond_false (hf _ _ hv) ?_;exact ch_18 st (by have:=of_decide_eq_false hq.symm;omega) X x buf a p n i e c nx sp sl ov f w hX hU hO hI hsp hR (hf 53 _ hv2)
theorem ch_16 (st:Lz.Stt) (hk:16<=idxS st):ChOk 16 st:=by
 intro X x buf a p n i e c nx sp sl ov f w hX hU hO hI hsp hR h73;obtain⟨q,hq⟩:∃q,q=decide (idxS st=16):=⟨_,rfl⟩;have g0:((nmB st).toList==[112,97,116,104])=q:=by rw[text_is,hq];cases st<;>rfl
 obtain⟨r,hc⟩:∃r:Code,runC Tryz.f19.body 16=.seq r (.cond (.tmp 636) (runArm Tryz.f19.body 16) (runC Tryz.f19.body 17))/\r=cd1 (runC Tryz.f19.body 16):=⟨_,rfl,rfl⟩;obtain⟨hc,hr⟩:=hc;rw[hc];refine cutR (fun a' w'=>w=w'/\∃l:List Value,l.length=761/\a'=stL X (nmB st) buf a p n i e c nx sp sl ov l/\l[616]? =some (.bool q)/\l[53]? =some (.string (nmB st))) ?_ ?_
 ·rw[hr];unfold FR;rw[h73];have HQ:=Ih hq;clear hU hO hI hsp hR h73 hc hr hq hk
  conv=>arg 2;whnf
  go_wp2_with fail
  exact⟨_,rfl,rfl,rfl,rfl⟩
 rintro _ _ ⟨rfl,l,hl,rfl,hv,hv2⟩;refine reframe X _ _ _ _ _ _ _ _ _ _ _ _ l hl (fun f hf=>?_);cases q with
 | true=>
   refine wp_cond_true (hf _ _ hv) ?_;obtain rfl:=st_of_idx st 16 .path (of_decide_eq_true hq.symm) rfl;exact rd_path X x buf a p n i e c nx sp sl ov f w hX hU hO hI hsp hR
 | false=>
   refine wp_cond_false (hf _ _ hv) ?_;exact ch_17 st (by have:=of_decide_eq_false hq.symm;omega) X x buf a p n i e c nx sp sl ov f w hX hU hO hI hsp hR (hf 53 _ hv2)
theorem ch_15 (st:Lz.Stt) (hk:15<=idxS st):ChOk 15 st:=by
 intro X x buf a p n i e c nx sp sl ov f w hX hU hO hI hsp hR h73;obtain⟨q,hq⟩:∃q,q=decide (idxS st=15):=⟨_,rfl⟩;have g0:((nmB st).toList==[112,97,116,104,32,115,116,97,114,116])=q:=by rw[text_is,hq];cases st<;>rfl
 obtain⟨r,hc⟩:∃r:Code,runC Tryz.f19.body 15=.seq r (.cond (.tmp 617) (runArm Tryz.f19.body 15) (runC Tryz.f19.body 16))/\r=cd1 (runC Tryz.f19.body 15):=⟨_,rfl,rfl⟩;obtain⟨hc,hr⟩:=hc;rw[hc];refine cutR (fun a' w'=>w=w'/\∃l:List Value,l.length=761/\a'=stL X (nmB st) buf a p n i e c nx sp sl ov l/\l[597]? =some (.bool q)/\l[53]? =some (.string (nmB st))) ?_ ?_
 ·rw[hr];unfold FR;rw[h73];have HQ:=Ih hq;clear hU hO hI hsp hR h73 hc hr hq hk
  conv=>arg 2;whnf
  go_wp2_with fail
  exact⟨_,rfl,rfl,rfl,rfl⟩
 rintro _ _ ⟨rfl,l,hl,rfl,hv,hv2⟩;refine reframe X _ _ _ _ _ _ _ _ _ _ _ _ l hl (fun f hf=>?_);cases q with
 | true=>
   refine wp_cond_true (hf _ _ hv) ?_;obtain rfl:=st_of_idx st 15 .pStart (of_decide_eq_true hq.symm) rfl;exact rd_pStart X x buf a p n i e c nx sp sl ov f w hX hU hO hI hsp hR
 | false=>
   refine wp_cond_false (hf _ _ hv) ?_;exact ch_16 st (by have:=of_decide_eq_false hq.symm;omega) X x buf a p n i e c nx sp sl ov f w hX hU hO hI hsp hR (hf 53 _ hv2)
theorem ch_14 (st:Lz.Stt) (hk:14<=idxS st):ChOk 14 st:=by
 intro X x buf a p n i e c nx sp sl ov f w hX hU hO hI hsp hR h73;obtain⟨q,hq⟩:∃q,q=decide (idxS st=14):=⟨_,rfl⟩;have g0:((nmB st).toList==[102,105,108,101,32,104,111,115,116])=q:=by rw[text_is,hq];cases st<;>rfl
 obtain⟨r,hc⟩:∃r:Code,runC Tryz.f19.body 14=.seq r (.cond (.tmp 586) (runArm Tryz.f19.body 14) (runC Tryz.f19.body 15))/\r=cd1 (runC Tryz.f19.body 14):=⟨_,rfl,rfl⟩;obtain⟨hc,hr⟩:=hc;rw[hc];refine cutR (fun a' w'=>w=w'/\∃l:List Value,l.length=761/\a'=stL X (nmB st) buf a p n i e c nx sp sl ov l/\l[566]? =some (.bool q)/\l[53]? =some (.string (nmB st))) ?_ ?_
 ·rw[hr];unfold FR;rw[h73];have HQ:=Ih hq;clear hU hO hI hsp hR h73 hc hr hq hk
  conv=>arg 2;whnf
  go_wp2_with fail
  exact⟨_,rfl,rfl,rfl,rfl⟩
 rintro _ _ ⟨rfl,l,hl,rfl,hv,hv2⟩;refine reframe X _ _ _ _ _ _ _ _ _ _ _ _ l hl (fun f hf=>?_);cases q with
 | true=>
   refine wp_cond_true (hf _ _ hv) ?_;obtain rfl:=st_of_idx st 14 .fileH (of_decide_eq_true hq.symm) rfl;exact rd_fileH X x buf a p n i e c nx sp sl ov f w hX hU hO hI hsp hR
 | false=>
   refine wp_cond_false (hf _ _ hv) ?_;exact ch_15 st (by have:=of_decide_eq_false hq.symm;omega) X x buf a p n i e c nx sp sl ov f w hX hU hO hI hsp hR (hf 53 _ hv2)
theorem ch_13 (st:Lz.Stt) (hk:13<=idxS st):ChOk 13 st:=by
 intro X x buf a p n i e c nx sp sl ov f w hX hU hO hI hsp hR h73;obtain⟨q,hq⟩:∃q,q=decide (idxS st=13):=⟨_,rfl⟩;have g0:((nmB st).toList==[102,105,108,101,32,115,108,97,115,104])=q:=by rw[text_is,hq];cases st<;>rfl
 obtain⟨r,hc⟩:∃r:Code,runC Tryz.f19.body 13=.seq r (.cond (.tmp 534) (runArm Tryz.f19.body 13) (runC Tryz.f19.body 14))/\r=cd1 (runC Tryz.f19.body 13):=⟨_,rfl,rfl⟩;obtain⟨hc,hr⟩:=hc;rw[hc];refine cutR (fun a' w'=>w=w'/\∃l:List Value,l.length=761/\a'=stL X (nmB st) buf a p n i e c nx sp sl ov l/\l[514]? =some (.bool q)/\l[53]? =some (.string (nmB st))) ?_ ?_
 ·rw[hr];unfold FR;rw[h73];have HQ:=Ih hq;clear hU hO hI hsp hR h73 hc hr hq hk
  conv=>arg 2;whnf
  go_wp2_with fail
  exact⟨_,rfl,rfl,rfl,rfl⟩
 rintro _ _ ⟨rfl,l,hl,rfl,hv,hv2⟩;refine reframe X _ _ _ _ _ _ _ _ _ _ _ _ l hl (fun f hf=>?_);cases q with
 | true=>
   refine wp_cond_true (hf _ _ hv) ?_;obtain rfl:=st_of_idx st 13 .fileS (of_decide_eq_true hq.symm) rfl;exact rd_fileS X x buf a p n i e c nx sp sl ov f w hX hU hO hI hsp hR
 | false=>
   refine wp_cond_false (hf _ _ hv) ?_;exact ch_14 st (by have:=of_decide_eq_false hq.symm;omega) X x buf a p n i e c nx sp sl ov f w hX hU hO hI hsp hR (hf 53 _ hv2)
theorem ch_12 (st:Lz.Stt) (hk:12<=idxS st):ChOk 12 st:=by
 intro X x buf a p n i e c nx sp sl ov f w hX hU hO hI hsp hR h73;obtain⟨q,hq⟩:∃q,q=decide (idxS st=12):=⟨_,rfl⟩;have g0:((nmB st).toList==[102,105,108,101])=q:=by rw[text_is,hq];cases st<;>rfl
 obtain⟨r,hc⟩:∃r:Code,runC Tryz.f19.body 12=.seq r (.cond (.tmp 470) (runArm Tryz.f19.body 12) (runC Tryz.f19.body 13))/\r=cd1 (runC Tryz.f19.body 12):=⟨_,rfl,rfl⟩;obtain⟨hc,hr⟩:=hc;rw[hc];refine cutR (fun a' w'=>w=w'/\∃l:List Value,l.length=761/\a'=stL X (nmB st) buf a p n i e c nx sp sl ov l/\l[450]? =some (.bool q)/\l[53]? =some (.string (nmB st))) ?_ ?_
 ·rw[hr];unfold FR;rw[h73];have HQ:=Ih hq;clear hU hO hI hsp hR h73 hc hr hq hk
  conv=>arg 2;whnf
  go_wp2_with fail
  exact⟨_,rfl,rfl,rfl,rfl⟩
 rintro _ _ ⟨rfl,l,hl,rfl,hv,hv2⟩;refine reframe X _ _ _ _ _ _ _ _ _ _ _ _ l hl (fun f hf=>?_);cases q with
 | true=>
   refine wp_cond_true (hf _ _ hv) ?_;obtain rfl:=st_of_idx st 12 .file (of_decide_eq_true hq.symm) rfl;exact rd_file X x buf a p n i e c nx sp sl ov f w hX hU hO hI hsp hR
 | false=>
   refine wp_cond_false (hf _ _ hv) ?_;exact ch_13 st (by have:=of_decide_eq_false hq.symm;omega) X x buf a p n i e c nx sp sl ov f w hX hU hO hI hsp hR (hf 53 _ hv2)
theorem ch_11 (st:Lz.Stt) (hk:11<=idxS st):ChOk 11 st:=by
 intro X x buf a p n i e c nx sp sl ov f w hX hU hO hI hsp hR h73;obtain⟨q,hq⟩:∃q,q=decide (idxS st=11):=⟨_,rfl⟩;have g0:((nmB st).toList==[112,111,114,116])=q:=by rw[text_is,hq];cases st<;>rfl
 obtain⟨r,hc⟩:∃r:Code,runC Tryz.f19.body 11=.seq r (.cond (.tmp 446) (runArm Tryz.f19.body 11) (runC Tryz.f19.body 12))/\r=cd1 (runC Tryz.f19.body 11):=⟨_,rfl,rfl⟩;obtain⟨hc,hr⟩:=hc;rw[hc];refine cutR (fun a' w'=>w=w'/\∃l:List Value,l.length=761/\a'=stL X (nmB st) buf a p n i e c nx sp sl ov l/\l[426]? =some (.bool q)/\l[53]? =some (.string (nmB st))) ?_ ?_
 ·rw[hr];unfold FR;rw[h73];have HQ:=Ih hq;clear hU hO hI hsp hR h73 hc hr hq hk
  conv=>arg 2;whnf
  go_wp2_with fail
  exact⟨_,rfl,rfl,rfl,rfl⟩
 rintro _ _ ⟨rfl,l,hl,rfl,hv,hv2⟩;refine reframe X _ _ _ _ _ _ _ _ _ _ _ _ l hl (fun f hf=>?_);cases q with
 | true=>
   refine wp_cond_true (hf _ _ hv) ?_;obtain rfl:=st_of_idx st 11 .port (of_decide_eq_true hq.symm) rfl;exact rd_port X x buf a p n i e c nx sp sl ov f w hX hU hO hI hsp hR
 | false=>
   refine wp_cond_false (hf _ _ hv) ?_;exact ch_12 st (by have:=of_decide_eq_false hq.symm;omega) X x buf a p n i e c nx sp sl ov f w hX hU hO hI hsp hR (hf 53 _ hv2)
theorem ch_10 (st:Lz.Stt) (hk:10<=idxS st):ChOk 10 st:=by
 intro X x buf a p n i e c nx sp sl ov f w hX hU hO hI hsp hR h73;obtain⟨q,hq⟩:∃q,q=decide (idxS st=10):=⟨_,rfl⟩;have g0:((nmB st).toList==[104,111,115,116])=q:=by rw[text_is,hq];cases st<;>rfl
 obtain⟨r,hc⟩:∃r:Code,runC Tryz.f19.body 10=.seq r (.cond (.tmp 397) (runArm Tryz.f19.body 10) (runC Tryz.f19.body 11))/\r=cd1 (runC Tryz.f19.body 10):=⟨_,rfl,rfl⟩;obtain⟨hc,hr⟩:=hc;rw[hc];refine cutR (fun a' w'=>w=w'/\∃l:List Value,l.length=761/\a'=stL X (nmB st) buf a p n i e c nx sp sl ov l/\l[377]? =some (.bool q)/\l[53]? =some (.string (nmB st))) ?_ ?_
 ·rw[hr];unfold FR;rw[h73];have HQ:=Ih hq;clear hU hO hI hsp hR h73 hc hr hq hk
  conv=>arg 2;whnf
  go_wp2_with fail
  exact⟨_,rfl,rfl,rfl,rfl⟩
 rintro _ _ ⟨rfl,l,hl,rfl,hv,hv2⟩;refine reframe X _ _ _ _ _ _ _ _ _ _ _ _ l hl (fun f hf=>?_);cases q with
 | true=>
   refine wp_cond_true (hf _ _ hv) ?_;obtain rfl:=st_of_idx st 10 .host (of_decide_eq_true hq.symm) rfl;exact rd_host X x buf a p n i e c nx sp sl ov f w hX hU hO hI hsp hR
 | false=>
   refine wp_cond_false (hf _ _ hv) ?_;exact ch_11 st (by have:=of_decide_eq_false hq.symm;omega) X x buf a p n i e c nx sp sl ov f w hX hU hO hI hsp hR (hf 53 _ hv2)
theorem ch_9 (st:Lz.Stt) (hk:9<=idxS st):ChOk 9 st:=by
 intro X x buf a p n i e c nx sp sl ov f w hX hU hO hI hsp hR h73;obtain⟨q,hq⟩:∃q,q=decide (idxS st=9):=⟨_,rfl⟩;have g0:((nmB st).toList==[97,117,116,104,111,114,105,116,121])=q:=by rw[text_is,hq];cases st<;>rfl
 obtain⟨r,hc⟩:∃r:Code,runC Tryz.f19.body 9=.seq r (.cond (.tmp 340) (runArm Tryz.f19.body 9) (runC Tryz.f19.body 10))/\r=cd1 (runC Tryz.f19.body 9):=⟨_,rfl,rfl⟩;obtain⟨hc,hr⟩:=hc;rw[hc];refine cutR (fun a' w'=>w=w'/\∃l:List Value,l.length=761/\a'=stL X (nmB st) buf a p n i e c nx sp sl ov l/\l[320]? =some (.bool q)/\l[53]? =some (.string (nmB st))) ?_ ?_
 ·rw[hr];unfold FR;rw[h73];have HQ:=Ih hq;clear hU hO hI hsp hR h73 hc hr hq hk
  conv=>arg 2;whnf
  go_wp2_with fail
  exact⟨_,rfl,rfl,rfl,rfl⟩
 rintro _ _ ⟨rfl,l,hl,rfl,hv,hv2⟩;refine reframe X _ _ _ _ _ _ _ _ _ _ _ _ l hl (fun f hf=>?_);cases q with
 | true=>
   refine wp_cond_true (hf _ _ hv) ?_;obtain rfl:=st_of_idx st 9 .auth (of_decide_eq_true hq.symm) rfl;exact rd_auth X x buf a p n i e c nx sp sl ov f w hX hU hO hI hsp hR
 | false=>
   refine wp_cond_false (hf _ _ hv) ?_;exact ch_10 st (by have:=of_decide_eq_false hq.symm;omega) X x buf a p n i e c nx sp sl ov f w hX hU hO hI hsp hR (hf 53 _ hv2)
theorem ch_8 (st:Lz.Stt) (hk:8<=idxS st):ChOk 8 st:=by
 intro X x buf a p n i e c nx sp sl ov f w hX hU hO hI hsp hR h73;obtain⟨q,hq⟩:∃q,q=decide (idxS st=8):=⟨_,rfl⟩;have g0:((nmB st).toList==[105,103,110,111,114,101])=q:=by rw[text_is,hq];cases st<;>rfl
 obtain⟨r,hc⟩:∃r:Code,runC Tryz.f19.body 8=.seq r (.cond (.tmp 334) (runArm Tryz.f19.body 8) (runC Tryz.f19.body 9))/\r=cd1 (runC Tryz.f19.body 8):=⟨_,rfl,rfl⟩;obtain⟨hc,hr⟩:=hc;rw[hc];refine cutR (fun a' w'=>w=w'/\∃l:List Value,l.length=761/\a'=stL X (nmB st) buf a p n i e c nx sp sl ov l/\l[314]? =some (.bool q)/\l[53]? =some (.string (nmB st))) ?_ ?_
 ·rw[hr];unfold FR;rw[h73];have HQ:=Ih hq;clear hU hO hI hsp hR h73 hc hr hq hk
  conv=>arg 2;whnf
  go_wp2_with fail
  exact⟨_,rfl,rfl,rfl,rfl⟩
 rintro _ _ ⟨rfl,l,hl,rfl,hv,hv2⟩;refine reframe X _ _ _ _ _ _ _ _ _ _ _ _ l hl (fun f hf=>?_);cases q with
 | true=>
   refine wp_cond_true (hf _ _ hv) ?_;obtain rfl:=st_of_idx st 8 .ign (of_decide_eq_true hq.symm) rfl;exact rd_ign X x buf a p n i e c nx sp sl ov f w hX hU hO hI hsp hR
 | false=>
   refine wp_cond_false (hf _ _ hv) ?_;exact ch_9 st (by have:=of_decide_eq_false hq.symm;omega) X x buf a p n i e c nx sp sl ov f w hX hU hO hI hsp hR (hf 53 _ hv2)
theorem ch_7 (st:Lz.Stt) (hk:7<=idxS st):ChOk 7 st:=by
 intro X x buf a p n i e c nx sp sl ov f w hX hU hO hI hsp hR h73;obtain⟨q,hq⟩:∃q,q=decide (idxS st=7):=⟨_,rfl⟩;have g0:((nmB st).toList==[115,112,101,99,105,97,108,32,115,108,97,115,104,101,115])=q:=by rw[text_is,hq];cases st<;>rfl
 obtain⟨r,hc⟩:∃r:Code,runC Tryz.f19.body 7=.seq r (.cond (.tmp 322) (runArm Tryz.f19.body 7) (runC Tryz.f19.body 8))/\r=cd1 (runC Tryz.f19.body 7):=⟨_,rfl,rfl⟩;obtain⟨hc,hr⟩:=hc;rw[hc];refine cutR (fun a' w'=>w=w'/\∃l:List Value,l.length=761/\a'=stL X (nmB st) buf a p n i e c nx sp sl ov l/\l[302]? =some (.bool q)/\l[53]? =some (.string (nmB st))) ?_ ?_
 ·rw[hr];unfold FR;rw[h73];have HQ:=Ih hq;clear hU hO hI hsp hR h73 hc hr hq hk
  conv=>arg 2;whnf
  go_wp2_with fail
  exact⟨_,rfl,rfl,rfl,rfl⟩
 rintro _ _ ⟨rfl,l,hl,rfl,hv,hv2⟩;refine reframe X _ _ _ _ _ _ _ _ _ _ _ _ l hl (fun f hf=>?_);cases q with
 | true=>
   refine wp_cond_true (hf _ _ hv) ?_;obtain rfl:=st_of_idx st 7 .spSl (of_decide_eq_true hq.symm) rfl;exact rd_spSl X x buf a p n i e c nx sp sl ov f w hX hU hO hI hsp hR
 | false=>
   refine wp_cond_false (hf _ _ hv) ?_;exact ch_8 st (by have:=of_decide_eq_false hq.symm;omega) X x buf a p n i e c nx sp sl ov f w hX hU hO hI hsp hR (hf 53 _ hv2)
theorem ch_6 (st:Lz.Stt) (hk:6<=idxS st):ChOk 6 st:=by
 intro X x buf a p n i e c nx sp sl ov f w hX hU hO hI hsp hR h73;obtain⟨q,hq⟩:∃q,q=decide (idxS st=6):=⟨_,rfl⟩;have g0:((nmB st).toList==[114,101,108,97,116,105,118,101,32,115,108,97,115,104])=q:=by rw[text_is,hq];cases st<;>rfl
 obtain⟨r,hc⟩:∃r:Code,runC Tryz.f19.body 6=.seq r (.cond (.tmp 287) (runArm Tryz.f19.body 6) (runC Tryz.f19.body 7))/\r=cd1 (runC Tryz.f19.body 6):=⟨_,rfl,rfl⟩;obtain⟨hc,hr⟩:=hc;rw[hc];refine cutR (fun a' w'=>w=w'/\∃l:List Value,l.length=761/\a'=stL X (nmB st) buf a p n i e c nx sp sl ov l/\l[267]? =some (.bool q)/\l[53]? =some (.string (nmB st))) ?_ ?_
 ·rw[hr];unfold FR;rw[h73];have HQ:=Ih hq;clear hU hO hI hsp hR h73 hc hr hq hk
  conv=>arg 2;whnf
  go_wp2_with fail
  exact⟨_,rfl,rfl,rfl,rfl⟩
 rintro _ _ ⟨rfl,l,hl,rfl,hv,hv2⟩;refine reframe X _ _ _ _ _ _ _ _ _ _ _ _ l hl (fun f hf=>?_);cases q with
 | true=>
   refine wp_cond_true (hf _ _ hv) ?_;obtain rfl:=st_of_idx st 6 .relS (of_decide_eq_true hq.symm) rfl;exact rd_relS X x buf a p n i e c nx sp sl ov f w hX hU hO hI hsp hR
 | false=>
   refine wp_cond_false (hf _ _ hv) ?_;exact ch_7 st (by have:=of_decide_eq_false hq.symm;omega) X x buf a p n i e c nx sp sl ov f w hX hU hO hI hsp hR (hf 53 _ hv2)
theorem ch_5 (st:Lz.Stt) (hk:5<=idxS st):ChOk 5 st:=by
 intro X x buf a p n i e c nx sp sl ov f w hX hU hO hI hsp hR h73;obtain⟨q,hq⟩:∃q,q=decide (idxS st=5):=⟨_,rfl⟩;have g0:((nmB st).toList==[114,101,108,97,116,105,118,101])=q:=by rw[text_is,hq];cases st<;>rfl
 obtain⟨r,hc⟩:∃r:Code,runC Tryz.f19.body 5=.seq r (.cond (.tmp 224) (runArm Tryz.f19.body 5) (runC Tryz.f19.body 6))/\r=cd1 (runC Tryz.f19.body 5):=⟨_,rfl,rfl⟩;obtain⟨hc,hr⟩:=hc;rw[hc];refine cutR (fun a' w'=>w=w'/\∃l:List Value,l.length=761/\a'=stL X (nmB st) buf a p n i e c nx sp sl ov l/\l[204]? =some (.bool q)/\l[53]? =some (.string (nmB st))) ?_ ?_
 ·rw[hr];unfold FR;rw[h73];have HQ:=Ih hq;clear hU hO hI hsp hR h73 hc hr hq hk
  conv=>arg 2;whnf
  go_wp2_with fail
  exact⟨_,rfl,rfl,rfl,rfl⟩
 rintro _ _ ⟨rfl,l,hl,rfl,hv,hv2⟩;refine reframe X _ _ _ _ _ _ _ _ _ _ _ _ l hl (fun f hf=>?_);cases q with
 | true=>
   refine wp_cond_true (hf _ _ hv) ?_;obtain rfl:=st_of_idx st 5 .rel (of_decide_eq_true hq.symm) rfl;exact rd_rel X x buf a p n i e c nx sp sl ov f w hX hU hO hI hsp hR
 | false=>
   refine wp_cond_false (hf _ _ hv) ?_;exact ch_6 st (by have:=of_decide_eq_false hq.symm;omega) X x buf a p n i e c nx sp sl ov f w hX hU hO hI hsp hR (hf 53 _ hv2)
theorem ch_4 (st:Lz.Stt) (hk:4<=idxS st):ChOk 4 st:=by
 intro X x buf a p n i e c nx sp sl ov f w hX hU hO hI hsp hR h73;obtain⟨q,hq⟩:∃q,q=decide (idxS st=4):=⟨_,rfl⟩;have g0:((nmB st).toList==[112,97,116,104,32,111,114,32,97,117,116,104,111,114,105,116,121])=q:=by rw[text_is,hq];cases st<;>rfl
 obtain⟨r,hc⟩:∃r:Code,runC Tryz.f19.body 4=.seq r (.cond (.tmp 218) (runArm Tryz.f19.body 4) (runC Tryz.f19.body 5))/\r=cd1 (runC Tryz.f19.body 4):=⟨_,rfl,rfl⟩;obtain⟨hc,hr⟩:=hc;rw[hc];refine cutR (fun a' w'=>w=w'/\∃l:List Value,l.length=761/\a'=stL X (nmB st) buf a p n i e c nx sp sl ov l/\l[198]? =some (.bool q)/\l[53]? =some (.string (nmB st))) ?_ ?_
 ·rw[hr];unfold FR;rw[h73];have HQ:=Ih hq;clear hU hO hI hsp hR h73 hc hr hq hk
  conv=>arg 2;whnf
  go_wp2_with fail
  exact⟨_,rfl,rfl,rfl,rfl⟩
 rintro _ _ ⟨rfl,l,hl,rfl,hv,hv2⟩;refine reframe X _ _ _ _ _ _ _ _ _ _ _ _ l hl (fun f hf=>?_);cases q with
 | true=>
   refine wp_cond_true (hf _ _ hv) ?_;obtain rfl:=st_of_idx st 4 .pa (of_decide_eq_true hq.symm) rfl;exact rd_pa X x buf a p n i e c nx sp sl ov f w hX hU hO hI hsp hR
 | false=>
   refine wp_cond_false (hf _ _ hv) ?_;exact ch_5 st (by have:=of_decide_eq_false hq.symm;omega) X x buf a p n i e c nx sp sl ov f w hX hU hO hI hsp hR (hf 53 _ hv2)
theorem ch_3 (st:Lz.Stt) (hk:3<=idxS st):ChOk 3 st:=by
 intro X x buf a p n i e c nx sp sl ov f w hX hU hO hI hsp hR h73;obtain⟨q,hq⟩:∃q,q=decide (idxS st=3):=⟨_,rfl⟩;have g0:((nmB st).toList==[115,112,101,99,105,97,108,32,114,101,108,97,116,105,118,101])=q:=by rw[text_is,hq];cases st<;>rfl
 obtain⟨r,hc⟩:∃r:Code,runC Tryz.f19.body 3=.seq r (.cond (.tmp 206) (runArm Tryz.f19.body 3) (runC Tryz.f19.body 4))/\r=cd1 (runC Tryz.f19.body 3):=⟨_,rfl,rfl⟩;obtain⟨hc,hr⟩:=hc;rw[hc];refine cutR (fun a' w'=>w=w'/\∃l:List Value,l.length=761/\a'=stL X (nmB st) buf a p n i e c nx sp sl ov l/\l[186]? =some (.bool q)/\l[53]? =some (.string (nmB st))) ?_ ?_
 ·rw[hr];unfold FR;rw[h73];have HQ:=Ih hq;clear hU hO hI hsp hR h73 hc hr hq hk
  conv=>arg 2;whnf
  go_wp2_with fail
  exact⟨_,rfl,rfl,rfl,rfl⟩
 rintro _ _ ⟨rfl,l,hl,rfl,hv,hv2⟩;refine reframe X _ _ _ _ _ _ _ _ _ _ _ _ l hl (fun f hf=>?_);cases q with
 | true=>
   refine wp_cond_true (hf _ _ hv) ?_;obtain rfl:=st_of_idx st 3 .spRel (of_decide_eq_true hq.symm) rfl;exact rd_spRel X x buf a p n i e c nx sp sl ov f w hX hU hO hI hsp hR
 | false=>
   refine wp_cond_false (hf _ _ hv) ?_;exact ch_4 st (by have:=of_decide_eq_false hq.symm;omega) X x buf a p n i e c nx sp sl ov f w hX hU hO hI hsp hR (hf 53 _ hv2)
theorem ch_2 (st:Lz.Stt) (hk:2<=idxS st):ChOk 2 st:=by
 intro X x buf a p n i e c nx sp sl ov f w hX hU hO hI hsp hR h73;obtain⟨q,hq⟩:∃q,q=decide (idxS st=2):=⟨_,rfl⟩;have g0:((nmB st).toList==[110,111,110,101])=q:=by rw[text_is,hq];cases st<;>rfl
 obtain⟨r,hc⟩:∃r:Code,runC Tryz.f19.body 2=.seq r (.cond (.tmp 155) (runArm Tryz.f19.body 2) (runC Tryz.f19.body 3))/\r=cd1 (runC Tryz.f19.body 2):=⟨_,rfl,rfl⟩;obtain⟨hc,hr⟩:=hc;rw[hc];refine cutR (fun a' w'=>w=w'/\∃l:List Value,l.length=761/\a'=stL X (nmB st) buf a p n i e c nx sp sl ov l/\l[135]? =some (.bool q)/\l[53]? =some (.string (nmB st))) ?_ ?_
 ·rw[hr];unfold FR;rw[h73];have HQ:=Ih hq;clear hU hO hI hsp hR h73 hc hr hq hk
  conv=>arg 2;whnf
  go_wp2_with fail
  exact⟨_,rfl,rfl,rfl,rfl⟩
 rintro _ _ ⟨rfl,l,hl,rfl,hv,hv2⟩;refine reframe X _ _ _ _ _ _ _ _ _ _ _ _ l hl (fun f hf=>?_);cases q with
 | true=>
   refine wp_cond_true (hf _ _ hv) ?_;obtain rfl:=st_of_idx st 2 .none (of_decide_eq_true hq.symm) rfl;exact rd_none X x buf a p n i e c nx sp sl ov f w hX hU hO hI hsp hR
 | false=>
   refine wp_cond_false (hf _ _ hv) ?_;exact ch_3 st (by have:=of_decide_eq_false hq.symm;omega) X x buf a p n i e c nx sp sl ov f w hX hU hO hI hsp hR (hf 53 _ hv2)
theorem ch_1 (st:Lz.Stt) (hk:1<=idxS st):ChOk 1 st:=by
 intro X x buf a p n i e c nx sp sl ov f w hX hU hO hI hsp hR h73;obtain⟨q,hq⟩:∃q,q=decide (idxS st=1):=⟨_,rfl⟩;have g0:((nmB st).toList==[115,99,104,101,109,101])=q:=by rw[text_is,hq];cases st<;>rfl
 obtain⟨r,hc⟩:∃r:Code,runC Tryz.f19.body 1=.seq r (.cond (.tmp 90) (runArm Tryz.f19.body 1) (runC Tryz.f19.body 2))/\r=cd1 (runC Tryz.f19.body 1):=⟨_,rfl,rfl⟩;obtain⟨hc,hr⟩:=hc;rw[hc];refine cutR (fun a' w'=>w=w'/\∃l:List Value,l.length=761/\a'=stL X (nmB st) buf a p n i e c nx sp sl ov l/\l[70]? =some (.bool q)/\l[53]? =some (.string (nmB st))) ?_ ?_
 ·rw[hr];unfold FR;rw[h73];have HQ:=Ih hq;clear hU hO hI hsp hR h73 hc hr hq hk
  conv=>arg 2;whnf
  go_wp2_with fail
  exact⟨_,rfl,rfl,rfl,rfl⟩
 rintro _ _ ⟨rfl,l,hl,rfl,hv,hv2⟩;refine reframe X _ _ _ _ _ _ _ _ _ _ _ _ l hl (fun f hf=>?_);cases q with
 | true=>
   refine wp_cond_true (hf _ _ hv) ?_;obtain rfl:=st_of_idx st 1 .scheme (of_decide_eq_true hq.symm) rfl;exact rd_scheme X x buf a p n i e c nx sp sl ov f w hX hU hO hI hsp hR
 | false=>
   refine wp_cond_false (hf _ _ hv) ?_;exact ch_2 st (by have:=of_decide_eq_false hq.symm;omega) X x buf a p n i e c nx sp sl ov f w hX hU hO hI hsp hR (hf 53 _ hv2)
theorem ch_0 (st:Lz.Stt) (hk:0<=idxS st):ChOk 0 st:=by
 intro X x buf a p n i e c nx sp sl ov f w hX hU hO hI hsp hR h73;obtain⟨q,hq⟩:∃q,q=decide (idxS st=0):=⟨_,rfl⟩;have g0:((nmB st).toList==[115,116,97,114,116])=q:=by rw[text_is,hq];cases st<;>rfl
 obtain⟨r,hc⟩:∃r:Code,runC Tryz.f19.body 0=.seq r (.cond (.tmp 74) (runArm Tryz.f19.body 0) (runC Tryz.f19.body 1))/\r=cd1 (runC Tryz.f19.body 0):=⟨_,rfl,rfl⟩;obtain⟨hc,hr⟩:=hc;rw[hc];refine cutR (fun a' w'=>w=w'/\∃l:List Value,l.length=761/\a'=stL X (nmB st) buf a p n i e c nx sp sl ov l/\l[54]? =some (.bool q)/\l[53]? =some (.string (nmB st))) ?_ ?_
 ·rw[hr];unfold FR;rw[h73];have HQ:=Ih hq;clear hU hO hI hsp hR h73 hc hr hq hk
  conv=>arg 2;whnf
  go_wp2_with fail
  exact⟨_,rfl,rfl,rfl,rfl⟩
 rintro _ _ ⟨rfl,l,hl,rfl,hv,hv2⟩;refine reframe X _ _ _ _ _ _ _ _ _ _ _ _ l hl (fun f hf=>?_);cases q with
 | true=>
   refine wp_cond_true (hf _ _ hv) ?_;obtain rfl:=st_of_idx st 0 .start (of_decide_eq_true hq.symm) rfl;exact rd_start X x buf a p n i e c nx sp sl ov f w hX hU hO hI hsp hR
 | false=>
   refine wp_cond_false (hf _ _ hv) ?_;exact ch_1 st (by have:=of_decide_eq_false hq.symm;omega) X x buf a p n i e c nx sp sl ov f w hX hU hO hI hsp hR (hf 53 _ hv2)
def SwOk (st:Lz.Stt):Prop:=∀(X:RX) (x:MkV) (buf:ByteArray) (a p n:Bool) (i:Nat) (e:Bool) (c nx:UInt8) (sp sl ov:Bool) (f:Nat->Value) (w:World),
 X.Ok->UAt X w x->OpqW X st w x->Lz.InvM X.b X.s.data.toList X.goal ⟨buf.data.toList,a,p,n,x.url⟩ i st->sp=Lz.specP x.url.scheme->Lz.Rd X.s.data.toList sp i e c nx sl ov->
 (runSw Tryz.f19.body).wp Tryz.prog (SwPost X st i) (FR (.string X.s) X.bv undef undef (.pointer (some ⟨X.B,0,none⟩)) (.int .i64 0) (.pointer (some ⟨X.M,0,none⟩)) (.pointer (some ⟨X.N,0,none⟩)) (.string (nmB st)) (.string buf) (.bool a) (.bool p) (.bool n) (.int .i64 i) (.bool e) (.int .u8 c.toNat) (.int .u8 nx.toNat) (.bool sp) (.bool sl) (.bool ov) f) w
theorem sw_all (st:Lz.Stt):SwOk st:=by
 intro X x buf a p n i e c nx sp sl ov f w hX hU hO hI hsp hR;obtain⟨r,hc,hr⟩:∃r:Code,runSw Tryz.f19.body=.seq r (.block 2 (runC Tryz.f19.body 0))/\r=cd1 (runSw Tryz.f19.body):=⟨_,rfl,rfl⟩;rw[hc];refine cutR (fun a' w'=>w=w'/\∃l:List Value,l.length=761/\a'=stL X (nmB st) buf a p n i e c nx sp sl ov l/\l[53]? =some (.string (nmB st))) ?_ ?_
 ·rw[hr];unfold FR;clear hU hO hI hsp hR hc hr
  conv=>arg 2;whnf
  go_wp2_with fail
  exact⟨_,rfl,rfl,rfl⟩
 rintro _ _ ⟨rfl,l,hl,rfl,hv⟩;refine reframe X _ _ _ _ _ _ _ _ _ _ _ _ l hl (fun f hf=>?_);refine wp_block ?_;refine wp_mono (ch_0 st (Nat.zero_le _) X x buf a p n i e c nx sp sl ov f w hX hU hO hI hsp hR (hf 53 _ hv)) ?_;intro e a' w' h
 match e,h with
 | .normal,h=>exact h
 | .exit 1,h=>exact h
 | .ret,h=>exact h
end Go.Proofs.YtipndhbgehdeoaaGreatDoor
