/-
  lazaretref08.run: the switch over the states.
-/
import Derived.Test.YtlcbhacofagedaaGreatDoorY38
import Derived.Test.YtlcbhacofagedaaGreatDoorY39
import Derived.Test.YtlcbhacofagedaaGreatDoorY31
import Derived.Test.YtlcbhacofagedaaGreatDoorY40
import Derived.Test.YtlcbhacofagedaaGreatDoorY41
set_option maxHeartbeats 4000000
set_option maxRecDepth 100000
namespace Go.Proofs.YtlcbhacofagedaaGreatDoor
open Go.RowKit
def g5:Lz.Stt->Nat
 | .start=>0
 | .scheme=>1
 | .none=>2
 | .spRel=>3
 | .pa=>4
 | .rel=>5
 | .relS=>6
 | .spSl=>7
 | .ign=>8
 | .auth=>9
 | .host=>10
 | .port=>11
 | .file=>12
 | .fileS=>13
 | .fileH=>14
 | .pStart=>15
 | .path=>16
 | .opq=>17
 | .query=>18
 | .frag=>19
def jt (k:Nat) (st:Lz.Stt):Prop:=∀(X:RX) (x:MkV) (buf:ByteArray) (a p n:Bool) (i:Nat) (e:Bool) (c nx:UInt8) (sp sl ov:Bool) (f:Nat->Value) (w:World),
 X.Ok->UAt X w x->wG X st w x->Lz.bS none X.s.data.toList X.goal ⟨buf.data.toList,a,p,n,x.url⟩ i st->sp=Lz.ae x.url.scheme->Lz.Rd X.s.data.toList sp i e c nx sl ov->f 73=.string (nmB st)->
 (BV Tryz.f9.body k).wp Tryz.prog (qM X st i) (FR (.string X.s) (.pointer none) undef undef (.pointer (some ⟨X.B,0,none⟩)) (.int .i64 0) (.pointer (some ⟨X.M,0,none⟩)) (.pointer (some ⟨X.N,0,none⟩)) (.string (nmB st)) (.string buf) (.bool a) (.bool p) (.bool n) (.int .i64 i) (.bool e) (.int .u8 c.toNat) (.int .u8 nx.toNat) (.bool sp) (.bool sl) (.bool ov) f) w
theorem JQ:∀(st:Lz.Stt) (k:Nat) (KI:Lz.Stt),g5 st=k->g5 KI=k->st=KI:=by
 intro st k KI h1 h2;subst h1;cases st<;>cases KI<;>first |rfl|(exfalso;revert h2;decide)
theorem Yn (st:Lz.Stt) (hk:20<=g5 st):jt 20 st:=by
 exfalso
 revert hk
 cases st<;>simp[g5]
theorem chS (k s:Nat) (o9:Lz.Stt) (b:List UInt8) (Tu:kc k o9) (next:∀st,k+1<=g5 st->jt (k+1) st) (VL:g5 o9=k:=by rfl) (hb:(nmB o9).data.toList=b:=by rfl) (hs:20<=s:=by decide)
  (hc:BV Tryz.f9.body k=.seq (cd1 (BV Tryz.f9.body k)) (.cond (.tmp s) (MD Tryz.f9.body k) (BV Tryz.f9.body (k+1))):=by rfl)
  (he:∀a0 a1 a2 a3 a4 a5 a6 a7 a8 a9 RO RZ RP RN Sk R4 RS R0 Sx Sv f,(FR a0 a1 a2 a3 a4 a5 a6 a7 a8 a9 RO RZ RP RN Sk R4 RS R0 Sx Sv f).eval (.tmp s)=f s:=by (intros;rfl))
  (hw:∀(X:RX) (nm buf:ByteArray) (a p n:Bool) (i:Nat) (e:Bool) (c nx:UInt8) (sp sl ov:Bool) (f:Nat->Value) (w:World) (q:Bool),(nm.toList==b)=q->f 73=.string nm->(cd1 (BV Tryz.f9.body k)).wp Tryz.prog (fun z a' w'=>z=.normal/\w=w'/\∃l:List Value,l.length=761/\a'=stL X nm buf a p n i e c nx sp sl ov l/\l[s-20]? =some (.bool q)/\l[53]? =some (.string nm)) (FR (.string X.s) (.pointer none) undef undef (.pointer (some ⟨X.B,0,none⟩)) (.int .i64 0) (.pointer (some ⟨X.M,0,none⟩)) (.pointer (some ⟨X.N,0,none⟩)) (.string nm) (.string buf) (.bool a) (.bool p) (.bool n) (.int .i64 i) (.bool e) (.int .u8 c.toNat) (.int .u8 nx.toNat) (.bool sp) (.bool sl) (.bool ov) f) w:=by (intro X nm buf a p n i e c nx sp sl ov f w q g0 h73;unfold FR;rw[h73];(conv=>(arg 2;whnf));go_wp2_with fail;exact⟨_,rfl,rfl,rfl,rfl⟩))
  (st:Lz.Stt) (hk:k<=g5 st):jt k st:=by
 intro X x buf a p n i e c nx sp sl ov f w hX hU hO hI d5 hR h73;obtain⟨q,hq⟩:∃q,q=decide (g5 st=k):=⟨_,rfl⟩
 have g0:((nmB st).toList==b)=q:=by
  rw[lB,hq,<-hb,<-VL];cases st<;>cases o9<;>rfl
 rw[hc];refine pR (fun a' w'=>w=w'/\∃l:List Value,l.length=761/\a'=stL X (nmB st) buf a p n i e c nx sp sl ov l/\l[s-20]? =some (.bool q)/\l[53]? =some (.string (nmB st))) (hw X (nmB st) buf a p n i e c nx sp sl ov f w q g0 h73) ?_;rintro _ _ ⟨rfl,l,hl,rfl,hv,gQ⟩;refine di X _ _ _ _ _ _ _ _ _ _ _ _ l hl (fun f hf=>?_)
 have h2:f s=.bool q:=by
  have:=hf _ _ hv
  rwa [show 20+(s-20)=s by omega]at this
 cases q with
 | true=>
   refine wp_cond_true ((he _ _ _ _ _ _ _ _ _ _ _ _ _ _ _ _ _ _ _ _ _).trans h2) ?_;obtain rfl:=JQ st k o9 (of_decide_eq_true hq.symm) VL;exact Tu X x buf a p n i e c nx sp sl ov f w hX hU hO hI d5 hR
 | false=>
   refine wp_cond_false ((he _ _ _ _ _ _ _ _ _ _ _ _ _ _ _ _ _ _ _ _ _).trans h2) ?_;exact next st (by have:=of_decide_eq_false hq.symm;omega) X x buf a p n i e c nx sp sl ov f w hX hU hO hI d5 hR (hf 53 _ gQ)
theorem YW:∀st,19<=g5 st->jt 19 st:=chS 19 762 .frag [102,114,97,103,109,101,110,116] Re Yn
theorem X3:∀st,18<=g5 st->jt 18 st:=chS 18 730 .query [113,117,101,114,121] NM YW
theorem X6:∀st,17<=g5 st->jt 17 st:=chS 17 706 .opq [111,112,97,113,117,101] Uq X3
theorem YJ:∀st,16<=g5 st->jt 16 st:=chS 16 636 .path [112,97,116,104] Qf X6
theorem YM:∀st,15<=g5 st->jt 15 st:=chS 15 617 .pStart [112,97,116,104,32,115,116,97,114,116] JE YJ
theorem Yh:∀st,14<=g5 st->jt 14 st:=chS 14 586 .fileH [102,105,108,101,32,104,111,115,116] Nh YM
theorem Yi:∀st,13<=g5 st->jt 13 st:=chS 13 534 .fileS [102,105,108,101,32,115,108,97,115,104] MV Yh
theorem Yy:∀st,12<=g5 st->jt 12 st:=chS 12 470 .file [102,105,108,101] Rt Yi
theorem X0:∀st,11<=g5 st->jt 11 st:=chS 11 446 .port [112,111,114,116] Rb Yy
theorem YP:∀st,10<=g5 st->jt 10 st:=chS 10 397 .host [104,111,115,116] Ri X0
theorem aaG:∀st,9<=g5 st->jt 9 st:=chS 9 340 .auth [97,117,116,104,111,114,105,116,121] PE YP
theorem aaJ:∀st,8<=g5 st->jt 8 st:=chS 8 334 .ign [105,103,110,111,114,101] UK aaG
theorem aaC:∀st,7<=g5 st->jt 7 st:=chS 7 322 .spSl [115,112,101,99,105,97,108,32,115,108,97,115,104,101,115] PM aaJ
theorem aa0:∀st,6<=g5 st->jt 6 st:=chS 6 287 .relS [114,101,108,97,116,105,118,101,32,115,108,97,115,104] Rl aaC
theorem aaO:∀st,5<=g5 st->jt 5 st:=chS 5 224 .rel [114,101,108,97,116,105,118,101] Vx aa0
theorem aaZ:∀st,4<=g5 st->jt 4 st:=chS 4 218 .pa [112,97,116,104,32,111,114,32,97,117,116,104,111,114,105,116,121] YD aaO
theorem aaK:∀st,3<=g5 st->jt 3 st:=chS 3 206 .spRel [115,112,101,99,105,97,108,32,114,101,108,97,116,105,118,101] Nv aaZ
theorem aaH:∀st,2<=g5 st->jt 2 st:=chS 2 155 .none [110,111,110,101] Rs aaK
theorem aat:∀st,1<=g5 st->jt 1 st:=chS 1 90 .scheme [115,99,104,101,109,101] Kb aaH
theorem aaT:∀st,0<=g5 st->jt 0 st:=chS 0 74 .start [115,116,97,114,116] MF aat
def aaA (st:Lz.Stt):Prop:=∀(X:RX) (x:MkV) (buf:ByteArray) (a p n:Bool) (i:Nat) (e:Bool) (c nx:UInt8) (sp sl ov:Bool) (f:Nat->Value) (w:World),
 X.Ok->UAt X w x->wG X st w x->Lz.bS none X.s.data.toList X.goal ⟨buf.data.toList,a,p,n,x.url⟩ i st->sp=Lz.ae x.url.scheme->Lz.Rd X.s.data.toList sp i e c nx sl ov->
 (vd Tryz.f9.body).wp Tryz.prog (qM X st i) (FR (.string X.s) (.pointer none) undef undef (.pointer (some ⟨X.B,0,none⟩)) (.int .i64 0) (.pointer (some ⟨X.M,0,none⟩)) (.pointer (some ⟨X.N,0,none⟩)) (.string (nmB st)) (.string buf) (.bool a) (.bool p) (.bool n) (.int .i64 i) (.bool e) (.int .u8 c.toNat) (.int .u8 nx.toNat) (.bool sp) (.bool sl) (.bool ov) f) w
theorem Va (st:Lz.Stt):aaA st:=by
 intro X x buf a p n i e c nx sp sl ov f w hX hU hO hI d5 hR;obtain⟨r,hc,hr⟩:∃r:Code,vd Tryz.f9.body=.seq r (.block 2 (BV Tryz.f9.body 0))/\r=cd1 (vd Tryz.f9.body):=⟨_,rfl,rfl⟩;rw[hc];refine pR (fun a' w'=>w=w'/\∃l:List Value,l.length=761/\a'=stL X (nmB st) buf a p n i e c nx sp sl ov l/\l[53]? =some (.string (nmB st))) ?_ ?_
 ·rw[hr];unfold FR;clear hU hO hI d5 hR hc hr
  conv=>arg 2;whnf
  go_wp2_with fail
  exact⟨_,rfl,rfl,rfl⟩
 rintro _ _ ⟨rfl,l,hl,rfl,hv⟩;refine di X _ _ _ _ _ _ _ _ _ _ _ _ l hl (fun f hf=>?_);refine wp_block ?_;refine wp_mono (aaT st (Nat.zero_le _) X x buf a p n i e c nx sp sl ov f w hX hU hO hI d5 hR (hf 53 _ hv)) ?_;intro e a' w' h
 match e,h with
 | .normal,h=>exact h
 | .exit 1,h=>exact h
 | .ret,h=>exact h
end Go.Proofs.YtlcbhacofagedaaGreatDoor
