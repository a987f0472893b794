/-
  The statement and the card of lazaretlaw27.AllowHash: whatever comes in, the law returns true, and what came in reads as it did.
-/
import Derived.Test.YtjhccadmmnjpeaaGreatDoorT49
import Derived.Test.YtjhccadmmnjpeaaGreatDoorCards
import Derived.Test.YtjhccadmmnjpeaaGreatDoorTie
set_option maxRecDepth 100000
namespace Go.Proofs.YtjhccadmmnjpeaaGreatDoor.allowHash
open Go.ChangeShapes Go.WideShapes Go.ChangeAt Go.RowKit Go.Proofs.YtjhccadmmnjpeaaGreatDoor
theorem walk (s0:ByteArray) (m1:Nat) (m2:Nat) (w:World) (hm1:m1<256) (hm2:m2<256) (hE:EnvA tabA tab2A w):Calls Tryz.prog 4 #[.string s0,.int .u8 m1,.int .u8 m2] w (RBool true w):=allowHash_any s0 m1 m2 w hm1 hm2 hE
theorem env {W:World} (h:laidMetH Tryz.prog Rows.allowInlineRow.laid W) (hsh:W.ShapedOpen Tryz.prog):EnvA tabA tab2A W:=envA_row h hsh
theorem contract (H:Type) (enc:TypeId×Value->H) (W:World) (base:Nat) (args:Array Value) (ds gs:List (DataW H)) (before:List MemPlace)
  (hval:∀(j:Nat) t v,Tryz.f4.params[j]? =some t->args[j]? =some v->Value.okWide Tryz.prog W .any base t v)
  (hW:DataW.Whole enc Tryz.prog Tryz.f4.params.toList Rows.allowHashSpec.vars false W args.toList ds gs before) (hL:laidMetH Tryz.prog Rows.allowHashRow.laid W) (hsh:W.ShapedOpen Tryz.prog):
  Calls Tryz.prog 4 args W fun e W'=>∃v,e=.returned v/\Rows.allowHashSpec.post enc Tryz.prog Tryz.f4 false true false false W args v W':=by
 have hW':=hW;obtain⟨p,q,hA0,hV,rfl,hfz,hnd⟩:=hW;have hA:DataW.TrodAll enc Tryz.prog W 0 (fun _=>true) true Tryz.f4.params.toList args.toList ds p:=hA0;rw[Tryz.params4]at hA hval;have hAk:=hA;have hlt:∀x∈p,x.block<W.heap.size:=fun x hx=>hW'.lt x (List.mem_append_left _ hx);obtain⟨v0,v1,v2,d0,d1,d2,p0,p1,p2,rfl,rfl,rfl,h0,h1,h2⟩:=trodAll_three hA;obtain⟨rfl,rfl⟩:=trodVars_none hV;obtain⟨s0,rfl,rfl,rfl,hs0⟩:=Go.ChangeMaps.open_string Tryz.underlying9 (hval 0 9 v0 rfl rfl) h0;obtain⟨z1,rfl,rfl,rfl,hz1⟩:=open_int Tryz.underlying5 (hval 1 5 v1 rfl rfl) h1;obtain⟨m1,rfl,hm1⟩:=nat8_of_wf' hz1;obtain⟨z2,rfl,rfl,rfl,hz2⟩:=open_int Tryz.underlying5 (hval 2 5 v2 rfl rfl) h2;obtain⟨m2,rfl,hm2⟩:=nat8_of_wf' hz2;clear hA0;refine(walk s0 m1 m2 W hm1 hm2 (env hL hsh)).mono fun e W' hr=>?_;obtain⟨he,hb⟩:e=.returned (.bool true)/\Below W.heap.size W W':=hr;subst he;refine⟨_,rfl,_,_,_,[],[]++[]++[],[],hW',?_,?_,?_,hb.frame _,?_⟩
 ·exact trodAll_mk1 (shut_bool Tryz.underlying4 true)
 ·exact trodAll_below hb (by decide +kernel) hAk hlt
 ·rfl
 ·exact fun h=>by cases h
theorem met (os:Os) (args:Array Value):laidMetH Tryz.prog Rows.allowHashRow.laid ((startU os).forCall (fun _ _=>0) ⟨#[],args,[]⟩).memory:=metU os args
theorem reads (os:Os) {H:Type} (enc:TypeId×Value->H):∃places,DataW.whole enc Tryz.prog ((startU os).forCall (fun _ _=>0) ⟨#[],#[.string ⟨#[]⟩,.int .u8 0,.int .u8 0],[]⟩).memory Tryz.f4.params.toList Rows.allowHashSpec.vars false #[Value.string ⟨#[]⟩,.int .u8 0,.int .u8 0].toList 8=some ([.lit (.string []),.lit (.int .u8 0),.lit (.int .u8 0)],[],places):=
 ⟨[],by kernel_rfl⟩
theorem lifted (os:Os) (started:os.Started) (H:Type) (enc:TypeId×Value->H) (F:Stop.Interp):
  ReturnsInHanded {} Tryz.checked os 4 .any ((OpenSpec.ofChange Rows.allowHashSpec).preRow enc Tryz.prog Tryz.f4 Rows.allowHashRow.domain false Rows.allowHashRow.laid) (((OpenSpec.ofChange Rows.allowHashSpec).at F).post enc Tryz.prog Tryz.f4 false true false false):=by
 obtain⟨places,hx⟩:=reads os enc
 refine returnsInHanded_of_row (C:=Tryz.checked) (s:=OpenSpec.ofChange Rows.allowHashSpec) ownU started (by kernel_rfl) Tryz.func4
  (witness_row_atRef (enc:=enc) (C:=Tryz.checked) false (startU os) #[.string ⟨#[]⟩,.int .u8 0,.int .u8 0] rfl (by kernel_rfl) (by kernel_rfl) (by kernel_rfl)
   (OpenSpec.preRow_of_cond 8 hx (by kernel_rfl) (fun k hk=>by cases hk) (by kernel_rfl) (met os _))) ?_
 intro W base args ds gs before hval hW _ _ _ hL hsh _;exact contract H enc W base args ds gs before hval hW hL hsh
theorem c1:Rows.allowHashRow.wf (OpenSpec.ofChange Rows.allowHashSpec)=true:=by kernel_rfl
theorem c2:namedTie Tryz.prog Rows.allowHashRow.named Rows.allowHashSpec.vars=true:=by kernel_rfl
theorem c3:(Rows.allowHashRow.inPlace==Tryz.prog.inPlace 4)=true:=by kernel_rfl
theorem c4:(Rows.allowHashRow.unfollowed==Tryz.prog.unfollowed 4)=true:=by kernel_rfl
theorem c5:(Rows.allowHashRow.recurses==Tryz.prog.recurses 4)=true:=by kernel_rfl
theorem c6:(Rows.allowHashRow.named==Tryz.prog.varsNamed 4)=true:=by kernel_rfl
theorem c7:(Rows.allowHashRow.lifted==Tryz.prog.liftsFinal)=true:=liftU
theorem c8:(Tryz.prog.make==some Rows.allowHashRow.make)=true:=makeU
theorem c9:(Rows.allowHashRow.plainKeys==Tryz.prog.plainKeys)=true:=keysU
theorem closed:joinedFacts Tryz.prog 4 Tryz.f4 Rows.allowHashSpec Rows.allowHashRow=true:=by
 unfold joinedFacts
 repeat' (with_reducible refine andI ?_ ?_)
 all_goals first
  | with_reducible exact c1|with_reducible exact laidOut|with_reducible exact mapsU|with_reducible exact c2|with_reducible exact c3|with_reducible exact c4|with_reducible exact c5|with_reducible exact c6
  | with_reducible exact c9|with_reducible exact heardU|with_reducible exact mayU|with_reducible exact c7|with_reducible exact c8
  | kernel_rfl
theorem said:Rows.AllowHashSaid:=
 OpenClaim.holds_of_cond 4 Tryz.f4 rfl rfl rfl rfl rfl rfl rfl ⟨rfl,rfl,rfl,rfl,rfl⟩ rfl rfl rfl rfl rfl (by kernel_rfl) Tryz.func4 closed
  (of_decide_eq_true (by kernel_rfl)) (by unfold Func.isWrapper;first |(rw[if_pos (by decide +kernel)];kernel_rfl)|(rw[if_neg (by decide +kernel)];exact⟨rfl,rfl⟩))
  (fun os started H enc _ F=>by rw[OpenClaim.pre_eq_preRow];exact lifted os started H enc F)
theorem plain (f:FuncId) (fn:Func) (hf:Tryz.pinned.checked.prog.funcNamed "lazaret/lazaretlaw27.AllowHash"=some f) (hfn:Tryz.pinned.checked.prog.funcs[f]? =some fn):
  true=Tryz.pinned.checked.prog.looks []/\∀(j:Nat) t,fn.params[j]? =some t->Tryz.pinned.checked.prog.wantsStandIn t=false:=by
 obtain rfl:f=4:=Option.some.inj ((show Tryz.prog.funcNamed "lazaret/lazaretlaw27.AllowHash"=some 4 by kernel_rfl).symm.trans hf) |>.symm
 obtain rfl:fn=Tryz.f4:=(Option.some.inj (Tryz.func4.symm.trans hfn)).symm;refine⟨by kernel_rfl,fun j t ht=>?_⟩;rw[Tryz.params4]at ht;have hall:∀t∈(#[9,5,5]:Array TypeId),Tryz.prog.wantsStandIn t=false:=by decide +kernel
 exact hall t (Array.mem_of_getElem? ht)
theorem card:Rows.AllowHashCardSaid:=
 Claim7.holds_tied_plain_at .later [] _ _ _ _ said (fun _ h=>by cases h) (by kernel_rfl) (fun _ h=>by cases h) allowHash_row_tie rfl ⟨rfl,rfl⟩ (by kernel_rfl) rfl plain (by kernel_rfl)
end Go.Proofs.YtjhccadmmnjpeaaGreatDoor.allowHash
