/-
  The statement and the card of lazaretlaw26.MatchAny: whatever comes in, the law returns true, and what came in reads as it did.
-/
import Derived.Test.YtlcbhacofagedaaGreatDoorY49
import Derived.Test.YtlcbhacofagedaaGreatDoorCards
import Derived.Test.YtlcbhacofagedaaGreatDoorTie
set_option maxRecDepth 100000
namespace Go.Proofs.YtlcbhacofagedaaGreatDoor.matchAny
open Go.ChangeShapes Go.WideShapes Go.ChangeAt Go.RowKit Go.Proofs.YtlcbhacofagedaaGreatDoor
theorem walk (s0 t0:ByteArray) (v1:Value) (l1:List (List UInt8)) (b2:Bool) (w:World) (i1:dy w v1 l1) (hE:mh w):Calls Tryz.prog 3 #[.agg #[.string s0,.string t0],v1,.bool b2] w (cn true w):=yU s0 t0 v1 l1 b2 w i1 hE
theorem env {W:World} (h:laidMetH Tryz.prog Rows.matchAnyRow.laid W) (Az:W.ShapedOpen Tryz.prog):mh W:=NX h Az
theorem contract (H:Type) (enc:TypeId×Value->H) (W:World) (base:Nat) (args:Array Value) (ds gs:List (DataW H)) (Ge:List MemPlace)
  (qE:∀(j:Nat) t v,Tryz.f3.params[j]? =some t->args[j]? =some v->Value.okWide Tryz.prog W .any base t v)
  (hW:DataW.Whole enc Tryz.prog Tryz.f3.params.toList Rows.matchAnySpec.vars false W args.toList ds gs Ge) (hL:laidMetH Tryz.prog Rows.matchAnyRow.laid W) (Az:W.ShapedOpen Tryz.prog):
  Calls Tryz.prog 3 args W fun e W'=>∃v,e=.returned v/\Rows.matchAnySpec.post enc Tryz.prog Tryz.f3 false true false false W args v W':=by
 have hW':=hW;obtain⟨p,q,hA0,hV,rfl,hfz,hnd⟩:=hW;have hA:DataW.TrodAll enc Tryz.prog W 0 (fun _=>true) true Tryz.f3.params.toList args.toList ds p:=hA0;rw[Tryz.params3]at hA qE;have hAk:=hA;have aN:∀x∈p,x.block<W.heap.size:=fun x hx=>hW'.lt x (List.mem_append_left _ hx);obtain⟨v0,v1,v2,d0,d1,d2,p0,p1,p2,rfl,rfl,rfl,h0,h1,h2⟩:=trodAll_three hA;obtain⟨rfl,rfl⟩:=trodVars_none hV;obtain⟨s0,t0,rfl⟩:=QW (qE 0 22 v0 rfl rfl) h0;obtain⟨l1,i1,z1⟩:=Qi (qE 1 23 v1 rfl rfl) h1;obtain⟨b2,rfl,rfl,rfl⟩:=open_bool Tryz.underlying4 (qE 2 4 v2 rfl rfl) h2;clear hA0;refine(walk s0 t0 v1 l1 b2 W i1 (env hL Az)).mono fun e W' hr=>?_;obtain⟨he,hb⟩:e=.returned (.bool true)/\Below W.heap.size W W':=hr;subst he;refine⟨_,rfl,_,_,_,[],p0++p1++[],[],hW',?_,?_,?_,hb.frame _,?_⟩
 ·exact trodAll_mk1 (shut_bool Tryz.underlying4 true)
 ·exact nT hb (by decide +kernel) hAk aN
 ·rfl
 ·exact fun h=>by cases h
theorem met (os:Os) (args:Array Value):laidMetH Tryz.prog Rows.matchAnyRow.laid ((zj os).forCall (fun _ _=>0) ⟨#[],args,[]⟩).memory:=aaU os args
theorem YV (os:Os) {H:Type} (enc:TypeId×Value->H):∃OW,DataW.whole enc Tryz.prog ((zj os).forCall (fun _ _=>0) ⟨#[],#[.agg #[.string ⟨#[]⟩,.string ⟨#[]⟩],.slice none 0 0,.bool false],[]⟩).memory Tryz.f3.params.toList Rows.matchAnySpec.vars false #[Value.agg #[.string ⟨#[]⟩,.string ⟨#[]⟩],.slice none 0 0,.bool false].toList 8=some ([.agg [.lit (.string []),.lit (.string [])],.nil,.lit (.bool false)],[],OW):=
 ⟨[],by kernel_rfl⟩
theorem lifted (os:Os) (Au:os.Started) (H:Type) (enc:TypeId×Value->H) (F:Stop.Interp):
  ReturnsInHanded {} Tryz.checked os 3 .any ((OpenSpec.ofChange Rows.matchAnySpec).preRow enc Tryz.prog Tryz.f3 Rows.matchAnyRow.domain false Rows.matchAnyRow.laid) (((OpenSpec.ofChange Rows.matchAnySpec).at F).post enc Tryz.prog Tryz.f3 false true false false):=by
 obtain⟨OW,hx⟩:=YV os enc
 refine returnsInHanded_of_row (C:=Tryz.checked) (s:=OpenSpec.ofChange Rows.matchAnySpec) aau Au (by kernel_rfl) Tryz.func3
  (witness_row_atRef (enc:=enc) (C:=Tryz.checked) false (zj os) #[.agg #[.string ⟨#[]⟩,.string ⟨#[]⟩],.slice none 0 0,.bool false] rfl (by kernel_rfl) (by kernel_rfl) (by kernel_rfl)
   (OpenSpec.preRow_of_cond 8 hx (by kernel_rfl) (fun k hk=>by cases hk) (by kernel_rfl) (met os _))) ?_
 intro W base args ds gs Ge qE hW _ _ _ hL Az _;exact contract H enc W base args ds gs Ge qE hW hL Az
theorem c1:Rows.matchAnyRow.wf (OpenSpec.ofChange Rows.matchAnySpec)=true:=by kernel_rfl
theorem c2:namedTie Tryz.prog Rows.matchAnyRow.named Rows.matchAnySpec.vars=true:=by kernel_rfl
theorem c3:(Rows.matchAnyRow.inPlace==Tryz.prog.inPlace 3)=true:=by kernel_rfl
theorem c4:(Rows.matchAnyRow.unfollowed==Tryz.prog.unfollowed 3)=true:=by kernel_rfl
theorem c5:(Rows.matchAnyRow.recurses==Tryz.prog.recurses 3)=true:=by kernel_rfl
theorem c6:(Rows.matchAnyRow.named==Tryz.prog.varsNamed 3)=true:=by kernel_rfl
theorem c7:(Rows.matchAnyRow.lifted==Tryz.prog.liftsFinal)=true:=Yj
theorem c8:(Tryz.prog.make==some Rows.matchAnyRow.make)=true:=XU
theorem c9:(Rows.matchAnyRow.plainKeys==Tryz.prog.plainKeys)=true:=YU
theorem closed:joinedFacts Tryz.prog 3 Tryz.f3 Rows.matchAnySpec Rows.matchAnyRow=true:=by
 unfold joinedFacts
 repeat' (with_reducible refine aaY ?_ ?_)
 all_goals first
  | with_reducible exact c1|with_reducible exact HJ|with_reducible exact YH|with_reducible exact c2|with_reducible exact c3|with_reducible exact c4|with_reducible exact c5|with_reducible exact c6
  | with_reducible exact c9|with_reducible exact UM|with_reducible exact aax|with_reducible exact c7|with_reducible exact c8
  | kernel_rfl
theorem said:Rows.MatchAnySaid:=
 OpenClaim.holds_of_cond 3 Tryz.f3 rfl rfl rfl rfl rfl rfl rfl ⟨rfl,rfl,rfl,rfl,rfl⟩ rfl rfl rfl rfl rfl (by kernel_rfl) Tryz.func3 closed
  (of_decide_eq_true (by kernel_rfl)) (by unfold Func.isWrapper;first |(rw[if_pos (by decide +kernel)];kernel_rfl)|(rw[if_neg (by decide +kernel)];exact⟨rfl,rfl⟩))
  (fun os Au H enc _ F=>by rw[OpenClaim.pre_eq_preRow];exact lifted os Au H enc F)
theorem plain (f:FuncId) (fn:Func) (hf:Tryz.pinned.checked.prog.funcNamed "lazaret/lazaretlaw26.MatchAny"=some f) (VB:Tryz.pinned.checked.prog.funcs[f]? =some fn):
  true=Tryz.pinned.checked.prog.looks []/\∀(j:Nat) t,fn.params[j]? =some t->Tryz.pinned.checked.prog.wantsStandIn t=false:=by
 obtain rfl:f=3:=Option.some.inj ((show Tryz.prog.funcNamed "lazaret/lazaretlaw26.MatchAny"=some 3 by kernel_rfl).symm.trans hf) |>.symm
 obtain rfl:fn=Tryz.f3:=(Option.some.inj (Tryz.func3.symm.trans VB)).symm;refine⟨by kernel_rfl,fun j t ht=>?_⟩;rw[Tryz.params3]at ht;have ey:∀t∈(#[22,23,4]:Array TypeId),Tryz.prog.wantsStandIn t=false:=by decide +kernel
 exact ey t (Array.mem_of_getElem? ht)
theorem card:Rows.MatchAnyCardSaid:=
 Claim7.holds_tied_plain_at .later [] _ _ _ _ said (fun _ h=>by cases h) (by kernel_rfl) (fun _ h=>by cases h) matchAny_row_tie rfl ⟨rfl,rfl⟩ (by kernel_rfl) rfl plain (by kernel_rfl)
end Go.Proofs.YtlcbhacofagedaaGreatDoor.matchAny
