/-
  The statement and the card of lazaretlaw27.AllowInline: whatever comes in, the law returns true, and what came in reads as it did.
-/
import Derived.Test.YtibcmemcfjhgmaaGreatDoorV49
import Derived.Test.YtibcmemcfjhgmaaGreatDoorCards
import Derived.Test.YtibcmemcfjhgmaaGreatDoorTie
set_option maxRecDepth 100000
namespace Go.Proofs.YtibcmemcfjhgmaaGreatDoor.allowInline
open Go.ChangeShapes Go.WideShapes Go.ChangeAt Go.RowKit Go.Proofs.YtibcmemcfjhgmaaGreatDoor
theorem walk (z0:Int) (v1:Value) (l1:List (List UInt8)) (s2 t2:ByteArray) (w:World) (i1:eY w v1 l1) (hE:oS fO bC w):Calls Tryz.prog 3 #[.int .i64 z0,v1,.agg #[.string s2,.string t2]] w (a5 true w):=tc z0 v1 l1 s2 t2 w i1 hE
theorem env {W:World} (h:laidMetH Tryz.prog Rows.allowInlineRow.laid W) (tK:W.ShapedOpen Tryz.prog):oS fO bC W:=Mh h tK
theorem contract (H:Type) (enc:TypeId×Value->H) (W:World) (base:Nat) (args:Array Value) (ds gs:List (DataW H)) (Gm:List MemPlace)
  (qJ:∀(j:Nat) t v,Tryz.f3.params[j]? =some t->args[j]? =some v->Value.okWide Tryz.prog W .any base t v)
  (hW:DataW.Whole enc Tryz.prog Tryz.f3.params.toList Rows.allowInlineSpec.vars false W args.toList ds gs Gm) (hL:laidMetH Tryz.prog Rows.allowInlineRow.laid W) (tK:W.ShapedOpen Tryz.prog):
  Calls Tryz.prog 3 args W fun e W'=>∃v,e=.returned v/\Rows.allowInlineSpec.post enc Tryz.prog Tryz.f3 false true false false W args v W':=by
 have hW':=hW;obtain⟨p,q,GC,hV,rfl,DR,hnd⟩:=hW;have hA:DataW.TrodAll enc Tryz.prog W 0 (fun _=>true) true Tryz.f3.params.toList args.toList ds p:=GC;rw[Tryz.params3]at hA qJ;have hAk:=hA;have aL:∀x∈p,x.block<W.heap.size:=fun x hx=>hW'.lt x (List.mem_append_left _ hx);obtain⟨v0,v1,v2,d0,d1,d2,p0,p1,p2,rfl,rfl,rfl,h0,h1,h2⟩:=trodAll_three hA;obtain⟨rfl,rfl⟩:=trodVars_none hV;obtain⟨z0,rfl,rfl,rfl,eZ⟩:=open_int Tryz.underlying3 (qJ 0 3 v0 rfl rfl) h0;obtain⟨l1,i1,z1⟩:=QC (qJ 1 22 v1 rfl rfl) h1;obtain⟨s2,t2,rfl⟩:=QY (qJ 2 23 v2 rfl rfl) h2;clear GC;refine(walk z0 v1 l1 s2 t2 W i1 (env hL tK)).mono fun e W' hr=>?_;obtain⟨he,hb⟩:e=.returned (.bool true)/\Below W.heap.size W W':=hr;subst he;refine⟨_,rfl,_,_,_,[],[]++p1++p2,[],hW',?_,?_,?_,hb.frame _,?_⟩
 ·exact trodAll_mk1 (shut_bool Tryz.underlying4 true)
 ·exact oB hb (by decide +kernel) hAk aL
 ·rfl
 ·exact fun h=>by cases h
theorem met (os:Os) (args:Array Value):laidMetH Tryz.prog Rows.allowInlineRow.laid ((zS os).forCall (fun _ _=>0) ⟨#[],args,[]⟩).memory:=abi os args
theorem Zn (os:Os) {H:Type} (enc:TypeId×Value->H):∃On,DataW.whole enc Tryz.prog ((zS os).forCall (fun _ _=>0) ⟨#[],#[.int .i64 0,.slice none 0 0,.agg #[.string ⟨#[]⟩,.string ⟨#[]⟩]],[]⟩).memory Tryz.f3.params.toList Rows.allowInlineSpec.vars false #[Value.int .i64 0,.slice none 0 0,.agg #[.string ⟨#[]⟩,.string ⟨#[]⟩]].toList 8=some ([.lit (.int .i64 0),.nil,.agg [.lit (.string []),.lit (.string [])]],[],On):=
 ⟨[],by kernel_rfl⟩
theorem lifted (os:Os) (AB:os.Started) (H:Type) (enc:TypeId×Value->H) (F:Stop.Interp):
  ReturnsInHanded {} Tryz.checked os 3 .any ((OpenSpec.ofChange Rows.allowInlineSpec).preRow enc Tryz.prog Tryz.f3 Rows.allowInlineRow.domain false Rows.allowInlineRow.laid) (((OpenSpec.ofChange Rows.allowInlineSpec).at F).post enc Tryz.prog Tryz.f3 false true false false):=by
 obtain⟨On,hx⟩:=Zn os enc
 refine returnsInHanded_of_row (C:=Tryz.checked) (s:=OpenSpec.ofChange Rows.allowInlineSpec) aaU AB (by kernel_rfl) Tryz.func3
  (witness_row_atRef (enc:=enc) (C:=Tryz.checked) false (zS os) #[.int .i64 0,.slice none 0 0,.agg #[.string ⟨#[]⟩,.string ⟨#[]⟩]] rfl (by kernel_rfl) (by kernel_rfl) (by kernel_rfl)
   (OpenSpec.preRow_of_cond 8 hx (by kernel_rfl) (fun k hk=>by cases hk) (by kernel_rfl) (met os _))) ?_
 intro W base args ds gs Gm qJ hW _ _ _ hL tK _;exact contract H enc W base args ds gs Gm qJ hW hL tK
theorem c1:Rows.allowInlineRow.wf (OpenSpec.ofChange Rows.allowInlineSpec)=true:=by kernel_rfl
theorem c2:namedTie Tryz.prog Rows.allowInlineRow.named Rows.allowInlineSpec.vars=true:=by kernel_rfl
theorem c3:(Rows.allowInlineRow.inPlace==Tryz.prog.inPlace 3)=true:=by kernel_rfl
theorem c4:(Rows.allowInlineRow.unfollowed==Tryz.prog.unfollowed 3)=true:=by kernel_rfl
theorem c5:(Rows.allowInlineRow.recurses==Tryz.prog.recurses 3)=true:=by kernel_rfl
theorem c6:(Rows.allowInlineRow.named==Tryz.prog.varsNamed 3)=true:=by kernel_rfl
theorem c7:(Rows.allowInlineRow.lifted==Tryz.prog.liftsFinal)=true:=YJ
theorem c8:(Tryz.prog.make==some Rows.allowInlineRow.make)=true:=Zt
theorem c9:(Rows.allowInlineRow.plainKeys==Tryz.prog.plainKeys)=true:=Zs
theorem closed:joinedFacts Tryz.prog 3 Tryz.f3 Rows.allowInlineSpec Rows.allowInlineRow=true:=by
 unfold joinedFacts
 repeat' (with_reducible refine aaX ?_ ?_)
 all_goals first
  | with_reducible exact c1|with_reducible exact IG|with_reducible exact YE|with_reducible exact c2|with_reducible exact c3|with_reducible exact c4|with_reducible exact c5|with_reducible exact c6
  | with_reducible exact c9|with_reducible exact Vv|with_reducible exact abr|with_reducible exact c7|with_reducible exact c8
  | kernel_rfl
theorem said:Rows.AllowInlineSaid:=
 OpenClaim.holds_of_cond 3 Tryz.f3 rfl rfl rfl rfl rfl rfl rfl ⟨rfl,rfl,rfl,rfl,rfl⟩ rfl rfl rfl rfl rfl (by kernel_rfl) Tryz.func3 closed
  (of_decide_eq_true (by kernel_rfl)) (by unfold Func.isWrapper;first |(rw[if_pos (by decide +kernel)];kernel_rfl)|(rw[if_neg (by decide +kernel)];exact⟨rfl,rfl⟩))
  (fun os AB H enc _ F=>by rw[OpenClaim.pre_eq_preRow];exact lifted os AB H enc F)
theorem plain (f:FuncId) (fn:Func) (hf:Tryz.pinned.checked.prog.funcNamed "lazaret/lazaretlaw27.AllowInline"=some f) (hfn:Tryz.pinned.checked.prog.funcs[f]? =some fn):
  true=Tryz.pinned.checked.prog.looks []/\∀(j:Nat) t,fn.params[j]? =some t->Tryz.pinned.checked.prog.wantsStandIn t=false:=by
 obtain rfl:f=3:=Option.some.inj ((show Tryz.prog.funcNamed "lazaret/lazaretlaw27.AllowInline"=some 3 by kernel_rfl).symm.trans hf) |>.symm
 obtain rfl:fn=Tryz.f3:=(Option.some.inj (Tryz.func3.symm.trans hfn)).symm;refine⟨by kernel_rfl,fun j t ht=>?_⟩;rw[Tryz.params3]at ht;have dY:∀t∈(#[3,22,23]:Array TypeId),Tryz.prog.wantsStandIn t=false:=by decide +kernel
 exact dY t (Array.mem_of_getElem? ht)
theorem card:Rows.AllowInlineCardSaid:=
 Claim7.holds_tied_plain_at .later [] _ _ _ _ said (fun _ h=>by cases h) (by kernel_rfl) (fun _ h=>by cases h) allowInline_row_tie rfl ⟨rfl,rfl⟩ (by kernel_rfl) rfl plain (by kernel_rfl)
end Go.Proofs.YtibcmemcfjhgmaaGreatDoor.allowInline
