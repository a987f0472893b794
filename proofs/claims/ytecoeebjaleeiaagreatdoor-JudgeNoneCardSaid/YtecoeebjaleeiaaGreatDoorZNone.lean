/-
  The statement and the card of lazaretlaw31.JudgeNone: whatever comes in, the law returns true, and what came in reads as it did.
-/
import Derived.Test.YtecoeebjaleeiaaGreatDoorJ43
import Derived.Test.YtecoeebjaleeiaaGreatDoorJ46
import Derived.Test.YtecoeebjaleeiaaGreatDoorCards
import Derived.Test.YtecoeebjaleeiaaGreatDoorTie
set_option maxRecDepth 100000
namespace Go.Proofs.YtecoeebjaleeiaaGreatDoor.judgeNone
open Go.ChangeShapes Go.WideShapes Go.ChangeAt Go.RowKit Go.Proofs.YtecoeebjaleeiaaGreatDoor
theorem walk (m0:Nat) (s1:ByteArray) (s2:ByteArray) (w:World) (sx:m0<256) (hE:mG vk nN w):Calls Tryz.prog 5 #[.int .u8 m0,.string s1,.string s2] w (aC true w):=yC m0 s1 s2 w sx hE
theorem env {W:World} (h:laidMetH Tryz.prog Rows.judgeMoreRow.laid W) (qW:W.ShapedOpen Tryz.prog):mG vk nN W:=wl h qW
theorem contract (H:Type) (enc:TypeId×Value->H) (W:World) (base:Nat) (args:Array Value) (ds gs:List (DataW H)) (li:List MemPlace)
  (jv:∀(j:Nat) t v,Tryz.f5.params[j]? =some t->args[j]? =some v->Value.okWide Tryz.prog W .any base t v)
  (hW:DataW.Whole enc Tryz.prog Tryz.f5.params.toList Rows.judgeNoneSpec.vars false W args.toList ds gs li) (hL:laidMetH Tryz.prog Rows.judgeNoneRow.laid W) (qW:W.ShapedOpen Tryz.prog):
  Calls Tryz.prog 5 args W fun e W'=>∃v,e=.returned v/\Rows.judgeNoneSpec.post enc Tryz.prog Tryz.f5 false true false false W args v W':=by
 have Mc:=hW;obtain⟨p,q,Fy,hV,rfl,If,hnd⟩:=hW;have hA:DataW.TrodAll enc Tryz.prog W 0 (fun _=>true) true Tryz.f5.params.toList args.toList ds p:=Fy;rw[Tryz.params5]at hA jv;have hAk:=hA;have aV:∀x∈p,x.block<W.heap.size:=fun x hx=>Mc.lt x (List.mem_append_left _ hx);obtain⟨v0,v1,v2,d0,d1,d2,p0,p1,p2,rfl,rfl,rfl,h0,h1,h2⟩:=trodAll_three hA;obtain⟨rfl,rfl⟩:=trodVars_none hV;obtain⟨z0,rfl,rfl,rfl,fI⟩:=open_int Tryz.underlying5 (jv 0 5 v0 rfl rfl) h0;obtain⟨m0,rfl,sx⟩:=C7 fI;obtain⟨s1,rfl,rfl,rfl,aU⟩:=Go.ChangeMaps.open_string Tryz.underlying9 (jv 1 9 v1 rfl rfl) h1;obtain⟨s2,rfl,rfl,rfl,dN⟩:=Go.ChangeMaps.open_string Tryz.underlying9 (jv 2 9 v2 rfl rfl) h2;clear Fy;refine(walk m0 s1 s2 W sx (env hL qW)).mono fun e W' hr=>?_;obtain⟨he,hb⟩:e=.returned (.bool true)/\Below W.heap.size W W':=hr;subst he;refine⟨_,rfl,_,_,_,[],[]++[]++[],[],Mc,?_,?_,?_,hb.frame _,?_⟩
 ·exact trodAll_mk1 (shut_bool Tryz.underlying4 true)
 ·exact jD hb (by decide +kernel) hAk aV
 ·rfl
 ·exact fun h=>by cases h
theorem met (os:Os) (args:Array Value):laidMetH Tryz.prog Rows.judgeNoneRow.laid ((lN os).forCall (fun _ _=>0) ⟨#[],args,[]⟩).memory:=UU os args
theorem Df (os:Os) {H:Type} (enc:TypeId×Value->H):∃o6,DataW.whole enc Tryz.prog ((lN os).forCall (fun _ _=>0) ⟨#[],#[.int .u8 0,.string ⟨#[]⟩,.string ⟨#[]⟩],[]⟩).memory Tryz.f5.params.toList Rows.judgeNoneSpec.vars false #[Value.int .u8 0,.string ⟨#[]⟩,.string ⟨#[]⟩].toList 8=some ([.lit (.int .u8 0),.lit (.string []),.lit (.string [])],[],o6):=
 ⟨[],by kernel_rfl⟩
theorem lifted (os:Os) (iU:os.Started) (H:Type) (enc:TypeId×Value->H) (F:Stop.Interp):
  ReturnsInHanded {} Tryz.checked os 5 .any ((OpenSpec.ofChange Rows.judgeNoneSpec).preRow enc Tryz.prog Tryz.f5 Rows.judgeNoneRow.domain false Rows.judgeNoneRow.laid) (((OpenSpec.ofChange Rows.judgeNoneSpec).at F).post enc Tryz.prog Tryz.f5 false true false false):=by
 obtain⟨o6,hx⟩:=Df os enc
 refine returnsInHanded_of_row (C:=Tryz.checked) (s:=OpenSpec.ofChange Rows.judgeNoneSpec) Ux iU (by kernel_rfl) Tryz.func5
  (witness_row_atRef (enc:=enc) (C:=Tryz.checked) false (lN os) #[.int .u8 0,.string ⟨#[]⟩,.string ⟨#[]⟩] rfl (by kernel_rfl) (by kernel_rfl) (by kernel_rfl)
   (OpenSpec.preRow_of_cond 8 hx (by kernel_rfl) (fun k hk=>by cases hk) (by kernel_rfl) (met os _))) ?_
 intro W base args ds gs li jv hW _ _ _ hL qW _;exact contract H enc W base args ds gs li jv hW hL qW
theorem c1:Rows.judgeNoneRow.wf (OpenSpec.ofChange Rows.judgeNoneSpec)=true:=by kernel_rfl
theorem c2:namedTie Tryz.prog Rows.judgeNoneRow.named Rows.judgeNoneSpec.vars=true:=by kernel_rfl
theorem c3:(Rows.judgeNoneRow.inPlace==Tryz.prog.inPlace 5)=true:=by kernel_rfl
theorem c4:(Rows.judgeNoneRow.unfollowed==Tryz.prog.unfollowed 5)=true:=by kernel_rfl
theorem c5:(Rows.judgeNoneRow.recurses==Tryz.prog.recurses 5)=true:=by kernel_rfl
theorem c6:(Rows.judgeNoneRow.named==Tryz.prog.varsNamed 5)=true:=by kernel_rfl
theorem c7:(Rows.judgeNoneRow.lifted==Tryz.prog.liftsFinal)=true:=N8
theorem c8:(Tryz.prog.make==some Rows.judgeNoneRow.make)=true:=Nf
theorem c9:(Rows.judgeNoneRow.plainKeys==Tryz.prog.plainKeys)=true:=MM
theorem closed:joinedFacts Tryz.prog 5 Tryz.f5 Rows.judgeNoneSpec Rows.judgeNoneRow=true:=by
 unfold joinedFacts
 repeat' (with_reducible refine UE ?_ ?_)
 all_goals first
  | with_reducible exact c1|with_reducible exact vG|with_reducible exact MK|with_reducible exact c2|with_reducible exact c3|with_reducible exact c4|with_reducible exact c5|with_reducible exact c6
  | with_reducible exact c9|with_reducible exact GD|with_reducible exact Vx|with_reducible exact c7|with_reducible exact c8
  | kernel_rfl
theorem said:Rows.JudgeNoneSaid:=
 OpenClaim.holds_of_cond 5 Tryz.f5 rfl rfl rfl rfl rfl rfl rfl ⟨rfl,rfl,rfl,rfl,rfl⟩ rfl rfl rfl rfl rfl (by kernel_rfl) Tryz.func5 closed
  (of_decide_eq_true (by kernel_rfl)) (by unfold Func.isWrapper;first |(rw[if_pos (by decide +kernel)];kernel_rfl)|(rw[if_neg (by decide +kernel)];exact⟨rfl,rfl⟩))
  (fun os iU H enc _ F=>by rw[OpenClaim.pre_eq_preRow];exact lifted os iU H enc F)
theorem plain (f:FuncId) (fn:Func) (hf:Tryz.pinned.checked.prog.funcNamed "lazaret/lazaretlaw31.JudgeNone"=some f) (hfn:Tryz.pinned.checked.prog.funcs[f]? =some fn):
  true=Tryz.pinned.checked.prog.looks []/\∀(j:Nat) t,fn.params[j]? =some t->Tryz.pinned.checked.prog.wantsStandIn t=false:=by
 obtain rfl:f=5:=Option.some.inj ((show Tryz.prog.funcNamed "lazaret/lazaretlaw31.JudgeNone"=some 5 by kernel_rfl).symm.trans hf) |>.symm
 obtain rfl:fn=Tryz.f5:=(Option.some.inj (Tryz.func5.symm.trans hfn)).symm;refine⟨by kernel_rfl,fun j t ht=>?_⟩;rw[Tryz.params5]at ht;have fq:∀t∈(#[5,9,9]:Array TypeId),Tryz.prog.wantsStandIn t=false:=by decide +kernel
 exact fq t (Array.mem_of_getElem? ht)
theorem card:Rows.JudgeNoneCardSaid:=
 Claim7.holds_tied_plain_at .later [] _ _ _ _ said (fun _ h=>by cases h) (by kernel_rfl) (fun _ h=>by cases h) judgeNone_row_tie rfl ⟨rfl,rfl⟩ (by kernel_rfl) rfl plain (by kernel_rfl)
end Go.Proofs.YtecoeebjaleeiaaGreatDoor.judgeNone
