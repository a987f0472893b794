/-
  The statement and the card of lazaretlaw27.AllowStrict: whatever comes in, the law returns true, and what came in reads as it did.
-/
import Derived.Test.YtjhccadmmnjpeaaGreatDoorT48
import Derived.Test.YtjhccadmmnjpeaaGreatDoorCards
import Derived.Test.YtjhccadmmnjpeaaGreatDoorTie
set_option maxRecDepth 100000
namespace Go.Proofs.YtjhccadmmnjpeaaGreatDoor.allowStrict
open Go.ChangeShapes Go.WideShapes Go.ChangeAt Go.RowKit Go.Proofs.YtjhccadmmnjpeaaGreatDoor
theorem walk (v0:Value) (l0:List (List UInt8)) (s1:ByteArray) (s2:ByteArray) (w:World) (i0:PathAt w v0 l0) (hE:EnvA tabA tab2A w):Calls Tryz.prog 7 #[v0,.string s1,.string s2] w (RBool true w):=allowStrict_any v0 l0 s1 s2 w i0 hE
theorem env {W:World} (h:laidMetH Tryz.prog Rows.allowInlineRow.laid W) (hsh:W.ShapedOpen Tryz.prog):EnvA tabA tab2A W:=envA_row h hsh
theorem contract (H:Type) (enc:TypeId×Value->H) (W:World) (base:Nat) (args:Array Value) (ds gs:List (DataW H)) (before:List MemPlace)
  (hval:∀(j:Nat) t v,Tryz.f7.params[j]? =some t->args[j]? =some v->Value.okWide Tryz.prog W .any base t v)
  (hW:DataW.Whole enc Tryz.prog Tryz.f7.params.toList Rows.allowStrictSpec.vars false W args.toList ds gs before) (hL:laidMetH Tryz.prog Rows.allowStrictRow.laid W) (hsh:W.ShapedOpen Tryz.prog):
  Calls Tryz.prog 7 args W fun e W'=>∃v,e=.returned v/\Rows.allowStrictSpec.post enc Tryz.prog Tryz.f7 false true false false W args v W':=by
 have hW':=hW;obtain⟨p,q,hA0,hV,rfl,hfz,hnd⟩:=hW;have hA:DataW.TrodAll enc Tryz.prog W 0 (fun _=>true) true Tryz.f7.params.toList args.toList ds p:=hA0;rw[Tryz.params7]at hA hval;have hAk:=hA;have hlt:∀x∈p,x.block<W.heap.size:=fun x hx=>hW'.lt x (List.mem_append_left _ hx);obtain⟨v0,v1,v2,d0,d1,d2,p0,p1,p2,rfl,rfl,rfl,h0,h1,h2⟩:=trodAll_three hA;obtain⟨rfl,rfl⟩:=trodVars_none hV;obtain⟨l0,i0,z0⟩:=path_of (hval 0 22 v0 rfl rfl) h0;obtain⟨s1,rfl,rfl,rfl,hs1⟩:=Go.ChangeMaps.open_string Tryz.underlying9 (hval 1 9 v1 rfl rfl) h1;obtain⟨s2,rfl,rfl,rfl,hs2⟩:=Go.ChangeMaps.open_string Tryz.underlying9 (hval 2 9 v2 rfl rfl) h2;clear hA0;refine(walk v0 l0 s1 s2 W i0 (env hL hsh)).mono fun e W' hr=>?_;obtain⟨he,hb⟩:e=.returned (.bool true)/\Below W.heap.size W W':=hr;subst he;refine⟨_,rfl,_,_,_,[],p0++[]++[],[],hW',?_,?_,?_,hb.frame _,?_⟩
 ·exact trodAll_mk1 (shut_bool Tryz.underlying4 true)
 ·exact trodAll_below hb (by decide +kernel) hAk hlt
 ·rfl
 ·exact fun h=>by cases h
theorem met (os:Os) (args:Array Value):laidMetH Tryz.prog Rows.allowStrictRow.laid ((startU os).forCall (fun _ _=>0) ⟨#[],args,[]⟩).memory:=metU os args
theorem reads (os:Os) {H:Type} (enc:TypeId×Value->H):∃places,DataW.whole enc Tryz.prog ((startU os).forCall (fun _ _=>0) ⟨#[],#[.slice none 0 0,.string ⟨#[]⟩,.string ⟨#[]⟩],[]⟩).memory Tryz.f7.params.toList Rows.allowStrictSpec.vars false #[Value.slice none 0 0,.string ⟨#[]⟩,.string ⟨#[]⟩].toList 8=some ([.nil,.lit (.string []),.lit (.string [])],[],places):=
 ⟨[],by kernel_rfl⟩
theorem lifted (os:Os) (started:os.Started) (H:Type) (enc:TypeId×Value->H) (F:Stop.Interp):
  ReturnsInHanded {} Tryz.checked os 7 .any ((OpenSpec.ofChange Rows.allowStrictSpec).preRow enc Tryz.prog Tryz.f7 Rows.allowStrictRow.domain false Rows.allowStrictRow.laid) (((OpenSpec.ofChange Rows.allowStrictSpec).at F).post enc Tryz.prog Tryz.f7 false true false false):=by
 obtain⟨places,hx⟩:=reads os enc
 refine returnsInHanded_of_row (C:=Tryz.checked) (s:=OpenSpec.ofChange Rows.allowStrictSpec) ownU started (by kernel_rfl) Tryz.func7
  (witness_row_atRef (enc:=enc) (C:=Tryz.checked) false (startU os) #[.slice none 0 0,.string ⟨#[]⟩,.string ⟨#[]⟩] rfl (by kernel_rfl) (by kernel_rfl) (by kernel_rfl)
   (OpenSpec.preRow_of_cond 8 hx (by kernel_rfl) (fun k hk=>by cases hk) (by kernel_rfl) (met os _))) ?_
 intro W base args ds gs before hval hW _ _ _ hL hsh _;exact contract H enc W base args ds gs before hval hW hL hsh
theorem c1:Rows.allowStrictRow.wf (OpenSpec.ofChange Rows.allowStrictSpec)=true:=by kernel_rfl
theorem c2:namedTie Tryz.prog Rows.allowStrictRow.named Rows.allowStrictSpec.vars=true:=by kernel_rfl
theorem c3:(Rows.allowStrictRow.inPlace==Tryz.prog.inPlace 7)=true:=by kernel_rfl
theorem c4:(Rows.allowStrictRow.unfollowed==Tryz.prog.unfollowed 7)=true:=by kernel_rfl
theorem c5:(Rows.allowStrictRow.recurses==Tryz.prog.recurses 7)=true:=by kernel_rfl
theorem c6:(Rows.allowStrictRow.named==Tryz.prog.varsNamed 7)=true:=by kernel_rfl
theorem c7:(Rows.allowStrictRow.lifted==Tryz.prog.liftsFinal)=true:=liftU
theorem c8:(Tryz.prog.make==some Rows.allowStrictRow.make)=true:=makeU
theorem c9:(Rows.allowStrictRow.plainKeys==Tryz.prog.plainKeys)=true:=keysU
theorem closed:joinedFacts Tryz.prog 7 Tryz.f7 Rows.allowStrictSpec Rows.allowStrictRow=true:=by
 unfold joinedFacts
 repeat' (with_reducible refine andI ?_ ?_)
 all_goals first
  | with_reducible exact c1|with_reducible exact laidOut|with_reducible exact mapsU|with_reducible exact c2|with_reducible exact c3|with_reducible exact c4|with_reducible exact c5|with_reducible exact c6
  | with_reducible exact c9|with_reducible exact heardU|with_reducible exact mayU|with_reducible exact c7|with_reducible exact c8
  | kernel_rfl
theorem said:Rows.AllowStrictSaid:=
 OpenClaim.holds_of_cond 7 Tryz.f7 rfl rfl rfl rfl rfl rfl rfl ⟨rfl,rfl,rfl,rfl,rfl⟩ rfl rfl rfl rfl rfl (by kernel_rfl) Tryz.func7 closed
  (of_decide_eq_true (by kernel_rfl)) (by unfold Func.isWrapper;first |(rw[if_pos (by decide +kernel)];kernel_rfl)|(rw[if_neg (by decide +kernel)];exact⟨rfl,rfl⟩))
  (fun os started H enc _ F=>by rw[OpenClaim.pre_eq_preRow];exact lifted os started H enc F)
theorem plain (f:FuncId) (fn:Func) (hf:Tryz.pinned.checked.prog.funcNamed "lazaret/lazaretlaw27.AllowStrict"=some f) (hfn:Tryz.pinned.checked.prog.funcs[f]? =some fn):
  true=Tryz.pinned.checked.prog.looks []/\∀(j:Nat) t,fn.params[j]? =some t->Tryz.pinned.checked.prog.wantsStandIn t=false:=by
 obtain rfl:f=7:=Option.some.inj ((show Tryz.prog.funcNamed "lazaret/lazaretlaw27.AllowStrict"=some 7 by kernel_rfl).symm.trans hf) |>.symm
 obtain rfl:fn=Tryz.f7:=(Option.some.inj (Tryz.func7.symm.trans hfn)).symm;refine⟨by kernel_rfl,fun j t ht=>?_⟩;rw[Tryz.params7]at ht;have hall:∀t∈(#[22,9,9]:Array TypeId),Tryz.prog.wantsStandIn t=false:=by decide +kernel
 exact hall t (Array.mem_of_getElem? ht)
theorem card:Rows.AllowStrictCardSaid:=
 Claim7.holds_tied_plain_at .later [] _ _ _ _ said (fun _ h=>by cases h) (by kernel_rfl) (fun _ h=>by cases h) allowStrict_row_tie rfl ⟨rfl,rfl⟩ (by kernel_rfl) rfl plain (by kernel_rfl)
end Go.Proofs.YtjhccadmmnjpeaaGreatDoor.allowStrict
