/-
  The statement and the card of lazaretlaw26.MatchMore: whatever comes in, the law returns true, and what came in reads as it did.
-/
import Derived.Test.YtfepgodjaeddgaaGreatDoorR48
import Derived.Test.YtfepgodjaeddgaaGreatDoorCards
import Derived.Test.YtfepgodjaeddgaaGreatDoorTie
set_option maxRecDepth 100000
namespace Go.Proofs.YtfepgodjaeddgaaGreatDoor.matchMore
open Go.ChangeShapes Go.WideShapes Go.ChangeAt Go.RowKit Go.Proofs.YtfepgodjaeddgaaGreatDoor
theorem walk (s0 t0:ByteArray) (v1:Value) (l1:List (List UInt8)) (s2:ByteArray) (w:World) (i1:PathAt w v1 l1) (hE:EnvM w):Calls Tryz.prog 4 #[.agg #[.string s0,.string t0],v1,.string s2] w (RBool true w):=matchMore_any s0 t0 v1 l1 s2 w i1 hE
theorem env {W:World} (h:laidMetH Tryz.prog Rows.matchTextsRow.laid W) (hsh:W.ShapedOpen Tryz.prog):EnvM W:=envM_row h hsh
theorem contract (H:Type) (enc:TypeId×Value->H) (W:World) (base:Nat) (args:Array Value) (ds gs:List (DataW H)) (before:List MemPlace)
  (hval:∀(j:Nat) t v,Tryz.f4.params[j]? =some t->args[j]? =some v->Value.okWide Tryz.prog W .any base t v)
  (hW:DataW.Whole enc Tryz.prog Tryz.f4.params.toList Rows.matchMoreSpec.vars false W args.toList ds gs before) (hL:laidMetH Tryz.prog Rows.matchMoreRow.laid W) (hsh:W.ShapedOpen Tryz.prog):
  Calls Tryz.prog 4 args W fun e W'=>∃v,e=.returned v/\Rows.matchMoreSpec.post enc Tryz.prog Tryz.f4 false true false false W args v W':=by
 have hW':=hW;obtain⟨p,q,hA0,hV,rfl,hfz,hnd⟩:=hW;have hA:DataW.TrodAll enc Tryz.prog W 0 (fun _=>true) true Tryz.f4.params.toList args.toList ds p:=hA0;rw[Tryz.params4]at hA hval;have hAk:=hA;have hlt:∀x∈p,x.block<W.heap.size:=fun x hx=>hW'.lt x (List.mem_append_left _ hx);obtain⟨v0,v1,v2,d0,d1,d2,p0,p1,p2,rfl,rfl,rfl,h0,h1,h2⟩:=trodAll_three hA;obtain⟨rfl,rfl⟩:=trodVars_none hV;obtain⟨s0,t0,rfl⟩:=str2_of (hval 0 27 v0 rfl rfl) h0;obtain⟨l1,i1,z1⟩:=path_of (hval 1 22 v1 rfl rfl) h1;obtain⟨s2,rfl,rfl,rfl,hs2⟩:=Go.ChangeMaps.open_string Tryz.underlying9 (hval 2 9 v2 rfl rfl) h2;clear hA0;refine(walk s0 t0 v1 l1 s2 W i1 (env hL hsh)).mono fun e W' hr=>?_;obtain⟨he,hb⟩:e=.returned (.bool true)/\Below W.heap.size W W':=hr;subst he;refine⟨_,rfl,_,_,_,[],p0++p1++[],[],hW',?_,?_,?_,hb.frame _,?_⟩
 ·exact trodAll_mk1 (shut_bool Tryz.underlying4 true)
 ·exact trodAll_below hb (by decide +kernel) hAk hlt
 ·rfl
 ·exact fun h=>by cases h
theorem met (os:Os) (args:Array Value):laidMetH Tryz.prog Rows.matchMoreRow.laid ((startU os).forCall (fun _ _=>0) ⟨#[],args,[]⟩).memory:=metU os args
theorem reads (os:Os) {H:Type} (enc:TypeId×Value->H):∃places,DataW.whole enc Tryz.prog ((startU os).forCall (fun _ _=>0) ⟨#[],#[.agg #[.string ⟨#[]⟩,.string ⟨#[]⟩],.slice none 0 0,.string ⟨#[]⟩],[]⟩).memory Tryz.f4.params.toList Rows.matchMoreSpec.vars false #[Value.agg #[.string ⟨#[]⟩,.string ⟨#[]⟩],.slice none 0 0,.string ⟨#[]⟩].toList 8=some ([.agg [.lit (.string []),.lit (.string [])],.nil,.lit (.string [])],[],places):=
 ⟨[],by kernel_rfl⟩
theorem lifted (os:Os) (started:os.Started) (H:Type) (enc:TypeId×Value->H) (F:Stop.Interp):
  ReturnsInHanded {} Tryz.checked os 4 .any ((OpenSpec.ofChange Rows.matchMoreSpec).preRow enc Tryz.prog Tryz.f4 Rows.matchMoreRow.domain false Rows.matchMoreRow.laid) (((OpenSpec.ofChange Rows.matchMoreSpec).at F).post enc Tryz.prog Tryz.f4 false true false false):=by
 obtain⟨places,hx⟩:=reads os enc
 refine returnsInHanded_of_row (C:=Tryz.checked) (s:=OpenSpec.ofChange Rows.matchMoreSpec) ownU started (by kernel_rfl) Tryz.func4
  (witness_row_atRef (enc:=enc) (C:=Tryz.checked) false (startU os) #[.agg #[.string ⟨#[]⟩,.string ⟨#[]⟩],.slice none 0 0,.string ⟨#[]⟩] rfl (by kernel_rfl) (by kernel_rfl) (by kernel_rfl)
   (OpenSpec.preRow_of_cond 8 hx (by kernel_rfl) (fun k hk=>by cases hk) (by kernel_rfl) (met os _))) ?_
 intro W base args ds gs before hval hW _ _ _ hL hsh _;exact contract H enc W base args ds gs before hval hW hL hsh
theorem c1:Rows.matchMoreRow.wf (OpenSpec.ofChange Rows.matchMoreSpec)=true:=by kernel_rfl
theorem c2:namedTie Tryz.prog Rows.matchMoreRow.named Rows.matchMoreSpec.vars=true:=by kernel_rfl
theorem c3:(Rows.matchMoreRow.inPlace==Tryz.prog.inPlace 4)=true:=by kernel_rfl
theorem c4:(Rows.matchMoreRow.unfollowed==Tryz.prog.unfollowed 4)=true:=by kernel_rfl
theorem c5:(Rows.matchMoreRow.recurses==Tryz.prog.recurses 4)=true:=by kernel_rfl
theorem c6:(Rows.matchMoreRow.named==Tryz.prog.varsNamed 4)=true:=by kernel_rfl
theorem c7:(Rows.matchMoreRow.lifted==Tryz.prog.liftsFinal)=true:=liftU
theorem c8:(Tryz.prog.make==some Rows.matchMoreRow.make)=true:=makeU
theorem c9:(Rows.matchMoreRow.plainKeys==Tryz.prog.plainKeys)=true:=keysU
theorem closed:joinedFacts Tryz.prog 4 Tryz.f4 Rows.matchMoreSpec Rows.matchMoreRow=true:=by
 unfold joinedFacts
 repeat' (with_reducible refine andI ?_ ?_)
 all_goals first
  | with_reducible exact c1|with_reducible exact laidOut|with_reducible exact mapsU|with_reducible exact c2|with_reducible exact c3|with_reducible exact c4|with_reducible exact c5|with_reducible exact c6
  | with_reducible exact c9|with_reducible exact heardU|with_reducible exact mayU|with_reducible exact c7|with_reducible exact c8
  | kernel_rfl
theorem said:Rows.MatchMoreSaid:=
 OpenClaim.holds_of_cond 4 Tryz.f4 rfl rfl rfl rfl rfl rfl rfl ⟨rfl,rfl,rfl,rfl,rfl⟩ rfl rfl rfl rfl rfl (by kernel_rfl) Tryz.func4 closed
  (of_decide_eq_true (by kernel_rfl)) (by unfold Func.isWrapper;first |(rw[if_pos (by decide +kernel)];kernel_rfl)|(rw[if_neg (by decide +kernel)];exact⟨rfl,rfl⟩))
  (fun os started H enc _ F=>by rw[OpenClaim.pre_eq_preRow];exact lifted os started H enc F)
theorem plain (f:FuncId) (fn:Func) (hf:Tryz.pinned.checked.prog.funcNamed "lazaret/lazaretlaw26.MatchMore"=some f) (hfn:Tryz.pinned.checked.prog.funcs[f]? =some fn):
  true=Tryz.pinned.checked.prog.looks []/\∀(j:Nat) t,fn.params[j]? =some t->Tryz.pinned.checked.prog.wantsStandIn t=false:=by
 obtain rfl:f=4:=Option.some.inj ((show Tryz.prog.funcNamed "lazaret/lazaretlaw26.MatchMore"=some 4 by kernel_rfl).symm.trans hf) |>.symm
 obtain rfl:fn=Tryz.f4:=(Option.some.inj (Tryz.func4.symm.trans hfn)).symm;refine⟨by kernel_rfl,fun j t ht=>?_⟩;rw[Tryz.params4]at ht;have hall:∀t∈(#[27,22,9]:Array TypeId),Tryz.prog.wantsStandIn t=false:=by decide +kernel
 exact hall t (Array.mem_of_getElem? ht)
theorem card:Rows.MatchMoreCardSaid:=
 Claim7.holds_tied_plain_at .later [] _ _ _ _ said (fun _ h=>by cases h) (by kernel_rfl) (fun _ h=>by cases h) matchMore_row_tie rfl ⟨rfl,rfl⟩ (by kernel_rfl) rfl plain (by kernel_rfl)
end Go.Proofs.YtfepgodjaeddgaaGreatDoor.matchMore
