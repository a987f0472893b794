/-
  The statement and the card of lazaretlaw31.JudgeEach: whatever comes in, the law returns true, and what came in reads as it did.
-/
import Derived.Test.YtecoeebjaleeiaaGreatDoorJ43
import Derived.Test.YtecoeebjaleeiaaGreatDoorJ47
import Derived.Test.YtecoeebjaleeiaaGreatDoorJ48
import Derived.Test.YtecoeebjaleeiaaGreatDoorCards
import Derived.Test.YtecoeebjaleeiaaGreatDoorTie
set_option maxRecDepth 100000
namespace Go.Proofs.YtecoeebjaleeiaaGreatDoor.judgeEach
open Go.ChangeShapes Go.WideShapes Go.ChangeAt Go.RowKit Go.Proofs.YtecoeebjaleeiaaGreatDoor
theorem walk (v0:Value) (l0:List aE) (x1:bh) (w:World) (i0:eW w v0 l0) (i1:Ik x1.kind) (hE:mG vk nN w):Calls Tryz.prog 4 #[v0,x1.val] w (aC true w):=yP v0 l0 x1 w i0 i1 hE
theorem env {W:World} (h:laidMetH Tryz.prog Rows.judgeMoreRow.laid W) (qW:W.ShapedOpen Tryz.prog):mG vk nN W:=wl h qW
theorem contract (H:Type) (enc:TypeId×Value->H) (W:World) (base:Nat) (args:Array Value) (ds gs:List (DataW H)) (li:List MemPlace)
  (jv:∀(j:Nat) t v,Tryz.f4.params[j]? =some t->args[j]? =some v->Value.okWide Tryz.prog W .any base t v)
  (hW:DataW.Whole enc Tryz.prog Tryz.f4.params.toList Rows.judgeEachSpec.vars false W args.toList ds gs li) (hL:laidMetH Tryz.prog Rows.judgeEachRow.laid W) (qW:W.ShapedOpen Tryz.prog):
  Calls Tryz.prog 4 args W fun e W'=>∃v,e=.returned v/\Rows.judgeEachSpec.post enc Tryz.prog Tryz.f4 false true false false W args v W':=by
 have Mc:=hW;obtain⟨p,q,Fy,hV,rfl,If,hnd⟩:=hW;have hA:DataW.TrodAll enc Tryz.prog W 0 (fun _=>true) true Tryz.f4.params.toList args.toList ds p:=Fy;rw[Tryz.params4]at hA jv;have hAk:=hA;have aV:∀x∈p,x.block<W.heap.size:=fun x hx=>Mc.lt x (List.mem_append_left _ hx);obtain⟨v0,v1,d0,d1,p0,p1,rfl,rfl,rfl,h0,h1⟩:=trodAll_two hA;obtain⟨rfl,rfl⟩:=trodVars_none hV;obtain⟨l0,i0,_⟩:=ET (jv 0 22 v0 rfl rfl) h0;obtain⟨x1,rfl,i1⟩:=Jq (jv 1 27 v1 rfl rfl) h1;clear Fy;refine(walk v0 l0 x1 W i0 i1 (env hL qW)).mono fun e W' hr=>?_;obtain⟨he,hb⟩:e=.returned (.bool true)/\Below W.heap.size W W':=hr;subst he;refine⟨_,rfl,_,_,_,[],p0++p1,[],Mc,?_,?_,?_,hb.frame _,?_⟩
 ·exact trodAll_mk1 (shut_bool Tryz.underlying4 true)
 ·exact jD hb (by decide +kernel) hAk aV
 ·rfl
 ·exact fun h=>by cases h
theorem met (os:Os) (args:Array Value):laidMetH Tryz.prog Rows.judgeEachRow.laid ((lN os).forCall (fun _ _=>0) ⟨#[],args,[]⟩).memory:=UU os args
theorem Df (os:Os) {H:Type} (enc:TypeId×Value->H):∃o6,DataW.whole enc Tryz.prog ((lN os).forCall (fun _ _=>0) ⟨#[],#[.slice none 0 0,.agg #[.int .i64 0,.int .i64 0,.string ⟨#[]⟩,.string ⟨#[]⟩,.string ⟨#[]⟩,.string ⟨#[]⟩,.string ⟨#[]⟩]],[]⟩).memory Tryz.f4.params.toList Rows.judgeEachSpec.vars false #[Value.slice none 0 0,.agg #[.int .i64 0,.int .i64 0,.string ⟨#[]⟩,.string ⟨#[]⟩,.string ⟨#[]⟩,.string ⟨#[]⟩,.string ⟨#[]⟩]].toList 8=some ([.nil,.agg [.lit (.int .i64 0),.lit (.int .i64 0),.lit (.string []),.lit (.string []),.lit (.string []),.lit (.string []),.lit (.string [])]],[],o6):=
 ⟨[],by kernel_rfl⟩
theorem lifted (os:Os) (iU:os.Started) (H:Type) (enc:TypeId×Value->H) (F:Stop.Interp):
  ReturnsInHanded {} Tryz.checked os 4 .any ((OpenSpec.ofChange Rows.judgeEachSpec).preRow enc Tryz.prog Tryz.f4 Rows.judgeEachRow.domain false Rows.judgeEachRow.laid) (((OpenSpec.ofChange Rows.judgeEachSpec).at F).post enc Tryz.prog Tryz.f4 false true false false):=by
 obtain⟨o6,hx⟩:=Df os enc
 refine returnsInHanded_of_row (C:=Tryz.checked) (s:=OpenSpec.ofChange Rows.judgeEachSpec) Ux iU (by kernel_rfl) Tryz.func4
  (witness_row_atRef (enc:=enc) (C:=Tryz.checked) false (lN os) #[.slice none 0 0,.agg #[.int .i64 0,.int .i64 0,.string ⟨#[]⟩,.string ⟨#[]⟩,.string ⟨#[]⟩,.string ⟨#[]⟩,.string ⟨#[]⟩]] rfl (by kernel_rfl) (by kernel_rfl) (by kernel_rfl)
   (OpenSpec.preRow_of_cond 8 hx (by kernel_rfl) (fun k hk=>by cases hk) (by kernel_rfl) (met os _))) ?_
 intro W base args ds gs li jv hW _ _ _ hL qW _;exact contract H enc W base args ds gs li jv hW hL qW
theorem c1:Rows.judgeEachRow.wf (OpenSpec.ofChange Rows.judgeEachSpec)=true:=by kernel_rfl
theorem c2:namedTie Tryz.prog Rows.judgeEachRow.named Rows.judgeEachSpec.vars=true:=by kernel_rfl
theorem c3:(Rows.judgeEachRow.inPlace==Tryz.prog.inPlace 4)=true:=by kernel_rfl
theorem c4:(Rows.judgeEachRow.unfollowed==Tryz.prog.unfollowed 4)=true:=by kernel_rfl
theorem c5:(Rows.judgeEachRow.recurses==Tryz.prog.recurses 4)=true:=by kernel_rfl
theorem c6:(Rows.judgeEachRow.named==Tryz.prog.varsNamed 4)=true:=by kernel_rfl
theorem c7:(Rows.judgeEachRow.lifted==Tryz.prog.liftsFinal)=true:=N8
theorem c8:(Tryz.prog.make==some Rows.judgeEachRow.make)=true:=Nf
theorem c9:(Rows.judgeEachRow.plainKeys==Tryz.prog.plainKeys)=true:=MM
theorem closed:joinedFacts Tryz.prog 4 Tryz.f4 Rows.judgeEachSpec Rows.judgeEachRow=true:=by
 unfold joinedFacts
 repeat' (with_reducible refine UE ?_ ?_)
 all_goals first
  | with_reducible exact c1|with_reducible exact vG|with_reducible exact MK|with_reducible exact c2|with_reducible exact c3|with_reducible exact c4|with_reducible exact c5|with_reducible exact c6
  | with_reducible exact c9|with_reducible exact GD|with_reducible exact Vx|with_reducible exact c7|with_reducible exact c8
  | kernel_rfl
theorem said:Rows.JudgeEachSaid:=
 OpenClaim.holds_of_cond 4 Tryz.f4 rfl rfl rfl rfl rfl rfl rfl ⟨rfl,rfl,rfl,rfl,rfl⟩ rfl rfl rfl rfl rfl (by kernel_rfl) Tryz.func4 closed
  (of_decide_eq_true (by kernel_rfl)) (by unfold Func.isWrapper;first |(rw[if_pos (by decide +kernel)];kernel_rfl)|(rw[if_neg (by decide +kernel)];exact⟨rfl,rfl⟩))
  (fun os iU H enc _ F=>by rw[OpenClaim.pre_eq_preRow];exact lifted os iU H enc F)
theorem plain (f:FuncId) (fn:Func) (hf:Tryz.pinned.checked.prog.funcNamed "lazaret/lazaretlaw31.JudgeEach"=some f) (hfn:Tryz.pinned.checked.prog.funcs[f]? =some fn):
  true=Tryz.pinned.checked.prog.looks []/\∀(j:Nat) t,fn.params[j]? =some t->Tryz.pinned.checked.prog.wantsStandIn t=false:=by
 obtain rfl:f=4:=Option.some.inj ((show Tryz.prog.funcNamed "lazaret/lazaretlaw31.JudgeEach"=some 4 by kernel_rfl).symm.trans hf) |>.symm
 obtain rfl:fn=Tryz.f4:=(Option.some.inj (Tryz.func4.symm.trans hfn)).symm;refine⟨by kernel_rfl,fun j t ht=>?_⟩;rw[Tryz.params4]at ht;have fq:∀t∈(#[22,27]:Array TypeId),Tryz.prog.wantsStandIn t=false:=by decide +kernel
 exact fq t (Array.mem_of_getElem? ht)
theorem card:Rows.JudgeEachCardSaid:=
 Claim7.holds_tied_plain_at .later [] _ _ _ _ said (fun _ h=>by cases h) (by kernel_rfl) (fun _ h=>by cases h) judgeEach_row_tie rfl ⟨rfl,rfl⟩ (by kernel_rfl) rfl plain (by kernel_rfl)
end Go.Proofs.YtecoeebjaleeiaaGreatDoor.judgeEach
