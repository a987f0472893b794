/-
  The statement and the card of lazaretlaw26.MatchTexts: whatever comes in, the law returns true, and what came in reads as it did.
-/
import Derived.Test.YtfepgodjaeddgaaGreatDoorR48
import Derived.Test.YtfepgodjaeddgaaGreatDoorCards
import Derived.Test.YtfepgodjaeddgaaGreatDoorTie
set_option maxRecDepth 100000
namespace Go.Proofs.YtfepgodjaeddgaaGreatDoor.matchTexts
open Go.ChangeShapes Go.WideShapes Go.ChangeAt Go.RowKit Go.Proofs.YtfepgodjaeddgaaGreatDoor
theorem walk (s0:ByteArray) (s1:ByteArray) (v2:Value) (l2:List (List UInt8)) (w:World) (i2:PathAt w v2 l2) (y2:∀y∈l2,y.length<=140737488355328) (hE:EnvM w):Calls Tryz.prog 3 #[.string s0,.string s1,v2] w (RBool true w):=matchTexts_any s0 s1 v2 l2 w i2 y2 hE
theorem env {W:World} (h:laidMetH Tryz.prog Rows.matchTextsRow.laid W) (hsh:W.ShapedOpen Tryz.prog):EnvM W:=envM_row h hsh
theorem contract (H:Type) (enc:TypeId×Value->H) (W:World) (base:Nat) (args:Array Value) (ds gs:List (DataW H)) (before:List MemPlace)
  (hval:∀(j:Nat) t v,Tryz.f3.params[j]? =some t->args[j]? =some v->Value.okWide Tryz.prog W .any base t v)
  (hW:DataW.Whole enc Tryz.prog Tryz.f3.params.toList Rows.matchTextsSpec.vars false W args.toList ds gs before) (hL:laidMetH Tryz.prog Rows.matchTextsRow.laid W) (hsh:W.ShapedOpen Tryz.prog) (hsz:(DataW.weightsEach Tryz.prog (Tryz.f3.params.toList++(OpenSpec.ofChange Rows.matchTextsSpec).bare.plain.varTypes Tryz.prog) (ds++gs)).all (·<=reachBytes)=true):
  Calls Tryz.prog 3 args W fun e W'=>∃v,e=.returned v/\Rows.matchTextsSpec.post enc Tryz.prog Tryz.f3 false true false false W args v W':=by
 have hW':=hW;obtain⟨p,q,hA0,hV,rfl,hfz,hnd⟩:=hW;have hA:DataW.TrodAll enc Tryz.prog W 0 (fun _=>true) true Tryz.f3.params.toList args.toList ds p:=hA0;rw[Tryz.params3]at hA hval;have hAk:=hA;have hlt:∀x∈p,x.block<W.heap.size:=fun x hx=>hW'.lt x (List.mem_append_left _ hx);obtain⟨v0,v1,v2,d0,d1,d2,p0,p1,p2,rfl,rfl,rfl,h0,h1,h2⟩:=trodAll_three hA;obtain⟨rfl,rfl⟩:=trodVars_none hV;obtain⟨s0,rfl,rfl,rfl,hs0⟩:=Go.ChangeMaps.open_string Tryz.underlying9 (hval 0 9 v0 rfl rfl) h0;obtain⟨s1,rfl,rfl,rfl,hs1⟩:=Go.ChangeMaps.open_string Tryz.underlying9 (hval 1 9 v1 rfl rfl) h1;obtain⟨l2,i2,z2⟩:=path_of (hval 2 22 v2 rfl rfl) h2;have y2:∀y∈l2,y.length<=140737488355328:=fun y hy=>Nat.le_trans (z2 reachBytes (fun x hx=>by have:=List.all_eq_true.1 hsz _ (DataW.weights_mem_each (j:=2) rfl rfl x hx);simpa using this) y hy) (by decide);clear hA0;refine(walk s0 s1 v2 l2 W i2 y2 (env hL hsh)).mono fun e W' hr=>?_;obtain⟨he,hb⟩:e=.returned (.bool true)/\Below W.heap.size W W':=hr;subst he;refine⟨_,rfl,_,_,_,[],[]++[]++p2,[],hW',?_,?_,?_,hb.frame _,?_⟩
 ·exact trodAll_mk1 (shut_bool Tryz.underlying4 true)
 ·exact trodAll_below hb (by decide +kernel) hAk hlt
 ·rfl
 ·exact fun h=>by cases h
theorem met (os:Os) (args:Array Value):laidMetH Tryz.prog Rows.matchTextsRow.laid ((startU os).forCall (fun _ _=>0) ⟨#[],args,[]⟩).memory:=metU os args
theorem reads (os:Os) {H:Type} (enc:TypeId×Value->H):∃places,DataW.whole enc Tryz.prog ((startU os).forCall (fun _ _=>0) ⟨#[],#[.string ⟨#[]⟩,.string ⟨#[]⟩,.slice none 0 0],[]⟩).memory Tryz.f3.params.toList Rows.matchTextsSpec.vars false #[Value.string ⟨#[]⟩,.string ⟨#[]⟩,.slice none 0 0].toList 8=some ([.lit (.string []),.lit (.string []),.nil],[],places):=
 ⟨[],by kernel_rfl⟩
theorem lifted (os:Os) (started:os.Started) (H:Type) (enc:TypeId×Value->H) (F:Stop.Interp):
  ReturnsInHanded {} Tryz.checked os 3 .any ((OpenSpec.ofChange Rows.matchTextsSpec).preRow enc Tryz.prog Tryz.f3 Rows.matchTextsRow.domain false Rows.matchTextsRow.laid) (((OpenSpec.ofChange Rows.matchTextsSpec).at F).post enc Tryz.prog Tryz.f3 false true false false):=by
 obtain⟨places,hx⟩:=reads os enc
 refine returnsInHanded_of_row (C:=Tryz.checked) (s:=OpenSpec.ofChange Rows.matchTextsSpec) ownU started (by kernel_rfl) Tryz.func3
  (witness_row_atRef (enc:=enc) (C:=Tryz.checked) false (startU os) #[.string ⟨#[]⟩,.string ⟨#[]⟩,.slice none 0 0] rfl (by kernel_rfl) (by kernel_rfl) (by kernel_rfl)
   (OpenSpec.preRow_of_cond 8 hx (by kernel_rfl) (fun k hk=>by cases hk) (by kernel_rfl) (met os _))) ?_
 intro W base args ds gs before hval hW _ _ hsz hL hsh _;exact contract H enc W base args ds gs before hval hW hL hsh hsz
theorem c1:Rows.matchTextsRow.wf (OpenSpec.ofChange Rows.matchTextsSpec)=true:=by kernel_rfl
theorem c2:namedTie Tryz.prog Rows.matchTextsRow.named Rows.matchTextsSpec.vars=true:=by kernel_rfl
theorem c3:(Rows.matchTextsRow.inPlace==Tryz.prog.inPlace 3)=true:=by kernel_rfl
theorem c4:(Rows.matchTextsRow.unfollowed==Tryz.prog.unfollowed 3)=true:=by kernel_rfl
theorem c5:(Rows.matchTextsRow.recurses==Tryz.prog.recurses 3)=true:=by kernel_rfl
theorem c6:(Rows.matchTextsRow.named==Tryz.prog.varsNamed 3)=true:=by kernel_rfl
theorem c7:(Rows.matchTextsRow.lifted==Tryz.prog.liftsFinal)=true:=liftU
theorem c8:(Tryz.prog.make==some Rows.matchTextsRow.make)=true:=makeU
theorem c9:(Rows.matchTextsRow.plainKeys==Tryz.prog.plainKeys)=true:=keysU
theorem closed:joinedFacts Tryz.prog 3 Tryz.f3 Rows.matchTextsSpec Rows.matchTextsRow=true:=by
 unfold joinedFacts
 repeat' (with_reducible refine andI ?_ ?_)
 all_goals first
  | with_reducible exact c1|with_reducible exact laidOut|with_reducible exact mapsU|with_reducible exact c2|with_reducible exact c3|with_reducible exact c4|with_reducible exact c5|with_reducible exact c6
  | with_reducible exact c9|with_reducible exact heardU|with_reducible exact mayU|with_reducible exact c7|with_reducible exact c8
  | kernel_rfl
theorem said:Rows.MatchTextsSaid:=
 OpenClaim.holds_of_cond 3 Tryz.f3 rfl rfl rfl rfl rfl rfl rfl ⟨rfl,rfl,rfl,rfl,rfl⟩ rfl rfl rfl rfl rfl (by kernel_rfl) Tryz.func3 closed
  (of_decide_eq_true (by kernel_rfl)) (by unfold Func.isWrapper;first |(rw[if_pos (by decide +kernel)];kernel_rfl)|(rw[if_neg (by decide +kernel)];exact⟨rfl,rfl⟩))
  (fun os started H enc _ F=>by rw[OpenClaim.pre_eq_preRow];exact lifted os started H enc F)
theorem plain (f:FuncId) (fn:Func) (hf:Tryz.pinned.checked.prog.funcNamed "lazaret/lazaretlaw26.MatchTexts"=some f) (hfn:Tryz.pinned.checked.prog.funcs[f]? =some fn):
  true=Tryz.pinned.checked.prog.looks []/\∀(j:Nat) t,fn.params[j]? =some t->Tryz.pinned.checked.prog.wantsStandIn t=false:=by
 obtain rfl:f=3:=Option.some.inj ((show Tryz.prog.funcNamed "lazaret/lazaretlaw26.MatchTexts"=some 3 by kernel_rfl).symm.trans hf) |>.symm
 obtain rfl:fn=Tryz.f3:=(Option.some.inj (Tryz.func3.symm.trans hfn)).symm;refine⟨by kernel_rfl,fun j t ht=>?_⟩;rw[Tryz.params3]at ht;have hall:∀t∈(#[9,9,22]:Array TypeId),Tryz.prog.wantsStandIn t=false:=by decide +kernel
 exact hall t (Array.mem_of_getElem? ht)
theorem card:Rows.MatchTextsCardSaid:=
 Claim7.holds_tied_plain_at .later [] _ _ _ _ said (fun _ h=>by cases h) (by kernel_rfl) (fun _ h=>by cases h) matchTexts_row_tie rfl ⟨rfl,rfl⟩ (by kernel_rfl) rfl plain (by kernel_rfl)
end Go.Proofs.YtfepgodjaeddgaaGreatDoor.matchTexts
