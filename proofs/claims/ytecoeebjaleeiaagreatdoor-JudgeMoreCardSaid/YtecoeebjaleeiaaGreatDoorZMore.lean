/-
  The statement and the card of lazaretlaw31.JudgeMore: whatever comes in, the law returns true, and what came in reads as it did.
-/
import Derived.Test.YtecoeebjaleeiaaGreatDoorJ43
import Derived.Test.YtecoeebjaleeiaaGreatDoorJ48
import Derived.Test.YtecoeebjaleeiaaGreatDoorJ50
import Derived.Test.YtecoeebjaleeiaaGreatDoorCards
import Derived.Test.YtecoeebjaleeiaaGreatDoorTie
set_option maxRecDepth 100000
namespace Go.Proofs.YtecoeebjaleeiaaGreatDoor.judgeMore
open Go.ChangeShapes Go.WideShapes Go.ChangeAt Go.RowKit Go.Proofs.YtecoeebjaleeiaaGreatDoor
theorem walk (v0:Value) (l0:List aE) (b1:aE) (x2:bh) (w:World) (i0:eW w v0 l0) (i1:dx w b1.v b1.ds) (i2:Ik x2.kind) (hE:mG vk nN w):Calls Tryz.prog 3 #[v0,b1.val,x2.val] w (aC true w):=yK v0 l0 b1 x2 w i0 i1 i2 hE
theorem env {W:World} (h:laidMetH Tryz.prog Rows.judgeMoreRow.laid W) (qW:W.ShapedOpen Tryz.prog):mG vk nN W:=wl h qW
theorem contract (H:Type) (enc:TypeId×Value->H) (W:World) (base:Nat) (args:Array Value) (ds gs:List (DataW H)) (li:List MemPlace)
  (jv:∀(j:Nat) t v,Tryz.f3.params[j]? =some t->args[j]? =some v->Value.okWide Tryz.prog W .any base t v)
  (hW:DataW.Whole enc Tryz.prog Tryz.f3.params.toList Rows.judgeMoreSpec.vars false W args.toList ds gs li) (hL:laidMetH Tryz.prog Rows.judgeMoreRow.laid W) (qW:W.ShapedOpen Tryz.prog):
  Calls Tryz.prog 3 args W fun e W'=>∃v,e=.returned v/\Rows.judgeMoreSpec.post enc Tryz.prog Tryz.f3 false true false false W args v W':=by
 have Mc:=hW;obtain⟨p,q,Fy,hV,rfl,If,hnd⟩:=hW;have hA:DataW.TrodAll enc Tryz.prog W 0 (fun _=>true) true Tryz.f3.params.toList args.toList ds p:=Fy;rw[Tryz.params3]at hA jv;have hAk:=hA;have aV:∀x∈p,x.block<W.heap.size:=fun x hx=>Mc.lt x (List.mem_append_left _ hx);obtain⟨v0,v1,v2,d0,d1,d2,p0,p1,p2,rfl,rfl,rfl,h0,h1,h2⟩:=trodAll_three hA;obtain⟨rfl,rfl⟩:=trodVars_none hV;obtain⟨l0,i0,_⟩:=ET (jv 0 22 v0 rfl rfl) h0;obtain⟨b1,rfl,i1⟩:=Rv (jv 1 25 v1 rfl rfl) h1;obtain⟨x2,rfl,i2⟩:=Jq (jv 2 27 v2 rfl rfl) h2;clear Fy;refine(walk v0 l0 b1 x2 W i0 i1 i2 (env hL qW)).mono fun e W' hr=>?_;obtain⟨he,hb⟩:e=.returned (.bool true)/\Below W.heap.size W W':=hr;subst he;refine⟨_,rfl,_,_,_,[],p0++p1++p2,[],Mc,?_,?_,?_,hb.frame _,?_⟩
 ·exact trodAll_mk1 (shut_bool Tryz.underlying4 true)
 ·exact jD hb (by decide +kernel) hAk aV
 ·rfl
 ·exact fun h=>by cases h
theorem met (os:Os) (args:Array Value):laidMetH Tryz.prog Rows.judgeMoreRow.laid ((lN os).forCall (fun _ _=>0) ⟨#[],args,[]⟩).memory:=UU os args
theorem Df (os:Os) {H:Type} (enc:TypeId×Value->H):∃o6,DataW.whole enc Tryz.prog ((lN os).forCall (fun _ _=>0) ⟨#[],#[.slice none 0 0,.agg #[.slice none 0 0,.bool false],.agg #[.int .i64 0,.int .i64 0,.string ⟨#[]⟩,.string ⟨#[]⟩,.string ⟨#[]⟩,.string ⟨#[]⟩,.string ⟨#[]⟩]],[]⟩).memory Tryz.f3.params.toList Rows.judgeMoreSpec.vars false #[Value.slice none 0 0,.agg #[.slice none 0 0,.bool false],.agg #[.int .i64 0,.int .i64 0,.string ⟨#[]⟩,.string ⟨#[]⟩,.string ⟨#[]⟩,.string ⟨#[]⟩,.string ⟨#[]⟩]].toList 8=some ([.nil,.agg [.nil,.lit (.bool false)],.agg [.lit (.int .i64 0),.lit (.int .i64 0),.lit (.string []),.lit (.string []),.lit (.string []),.lit (.string []),.lit (.string [])]],[],o6):=
 ⟨[],by kernel_rfl⟩
theorem lifted (os:Os) (iU:os.Started) (H:Type) (enc:TypeId×Value->H) (F:Stop.Interp):
  ReturnsInHanded {} Tryz.checked os 3 .any ((OpenSpec.ofChange Rows.judgeMoreSpec).preRow enc Tryz.prog Tryz.f3 Rows.judgeMoreRow.domain false Rows.judgeMoreRow.laid) (((OpenSpec.ofChange Rows.judgeMoreSpec).at F).post enc Tryz.prog Tryz.f3 false true false false):=by
 obtain⟨o6,hx⟩:=Df os enc
 refine returnsInHanded_of_row (C:=Tryz.checked) (s:=OpenSpec.ofChange Rows.judgeMoreSpec) Ux iU (by kernel_rfl) Tryz.func3
  (witness_row_atRef (enc:=enc) (C:=Tryz.checked) false (lN os) #[.slice none 0 0,.agg #[.slice none 0 0,.bool false],.agg #[.int .i64 0,.int .i64 0,.string ⟨#[]⟩,.string ⟨#[]⟩,.string ⟨#[]⟩,.string ⟨#[]⟩,.string ⟨#[]⟩]] rfl (by kernel_rfl) (by kernel_rfl) (by kernel_rfl)
   (OpenSpec.preRow_of_cond 8 hx (by kernel_rfl) (fun k hk=>by cases hk) (by kernel_rfl) (met os _))) ?_
 intro W base args ds gs li jv hW _ _ _ hL qW _;exact contract H enc W base args ds gs li jv hW hL qW
theorem c1:Rows.judgeMoreRow.wf (OpenSpec.ofChange Rows.judgeMoreSpec)=true:=by kernel_rfl
theorem c2:namedTie Tryz.prog Rows.judgeMoreRow.named Rows.judgeMoreSpec.vars=true:=by kernel_rfl
theorem c3:(Rows.judgeMoreRow.inPlace==Tryz.prog.inPlace 3)=true:=by kernel_rfl
theorem c4:(Rows.judgeMoreRow.unfollowed==Tryz.prog.unfollowed 3)=true:=by kernel_rfl
theorem c5:(Rows.judgeMoreRow.recurses==Tryz.prog.recurses 3)=true:=by kernel_rfl
theorem c6:(Rows.judgeMoreRow.named==Tryz.prog.varsNamed 3)=true:=by kernel_rfl
theorem c7:(Rows.judgeMoreRow.lifted==Tryz.prog.liftsFinal)=true:=N8
theorem c8:(Tryz.prog.make==some Rows.judgeMoreRow.make)=true:=Nf
theorem c9:(Rows.judgeMoreRow.plainKeys==Tryz.prog.plainKeys)=true:=MM
theorem closed:joinedFacts Tryz.prog 3 Tryz.f3 Rows.judgeMoreSpec Rows.judgeMoreRow=true:=by
 unfold joinedFacts
 repeat' (with_reducible refine UE ?_ ?_)
 all_goals first
  | with_reducible exact c1|with_reducible exact vG|with_reducible exact MK|with_reducible exact c2|with_reducible exact c3|with_reducible exact c4|with_reducible exact c5|with_reducible exact c6
  | with_reducible exact c9|with_reducible exact GD|with_reducible exact Vx|with_reducible exact c7|with_reducible exact c8
  | kernel_rfl
theorem said:Rows.JudgeMoreSaid:=
 OpenClaim.holds_of_cond 3 Tryz.f3 rfl rfl rfl rfl rfl rfl rfl ⟨rfl,rfl,rfl,rfl,rfl⟩ rfl rfl rfl rfl rfl (by kernel_rfl) Tryz.func3 closed
  (of_decide_eq_true (by kernel_rfl)) (by unfold Func.isWrapper;first |(rw[if_pos (by decide +kernel)];kernel_rfl)|(rw[if_neg (by decide +kernel)];exact⟨rfl,rfl⟩))
  (fun os iU H enc _ F=>by rw[OpenClaim.pre_eq_preRow];exact lifted os iU H enc F)
theorem plain (f:FuncId) (fn:Func) (hf:Tryz.pinned.checked.prog.funcNamed "lazaret/lazaretlaw31.JudgeMore"=some f) (hfn:Tryz.pinned.checked.prog.funcs[f]? =some fn):
  true=Tryz.pinned.checked.prog.looks []/\∀(j:Nat) t,fn.params[j]? =some t->Tryz.pinned.checked.prog.wantsStandIn t=false:=by
 obtain rfl:f=3:=Option.some.inj ((show Tryz.prog.funcNamed "lazaret/lazaretlaw31.JudgeMore"=some 3 by kernel_rfl).symm.trans hf) |>.symm
 obtain rfl:fn=Tryz.f3:=(Option.some.inj (Tryz.func3.symm.trans hfn)).symm;refine⟨by kernel_rfl,fun j t ht=>?_⟩;rw[Tryz.params3]at ht;have fq:∀t∈(#[22,25,27]:Array TypeId),Tryz.prog.wantsStandIn t=false:=by decide +kernel
 exact fq t (Array.mem_of_getElem? ht)
theorem card:Rows.JudgeMoreCardSaid:=
 Claim7.holds_tied_plain_at .later [] _ _ _ _ said (fun _ h=>by cases h) (by kernel_rfl) (fun _ h=>by cases h) judgeMore_row_tie rfl ⟨rfl,rfl⟩ (by kernel_rfl) rfl plain (by kernel_rfl)
end Go.Proofs.YtecoeebjaleeiaaGreatDoor.judgeMore
