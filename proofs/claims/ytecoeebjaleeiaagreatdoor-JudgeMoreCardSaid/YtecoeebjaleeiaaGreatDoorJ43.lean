/-
  What the rows of lazaretlaw31 share: what is laid, and a world that a witness starts in.
-/
import Derived.Test.YtecoeebjaleeiaaGreatDoorJ42
import Derived.Test.YtecoeebjaleeiaaGreatDoorJ38
set_option maxRecDepth 100000
namespace Go.Proofs.YtecoeebjaleeiaaGreatDoor
open Go.ChangeShapes Go.WideShapes Go.ChangeAt Go.RowKit
theorem YR:Tryz.prog.globalNamed "lazaret/chains.effective"=some 1:=by kernel_rfl
theorem Zb:Tryz.prog.globalNamed "lazaret/judge.inline"=some 0:=by kernel_rfl
theorem Ry:Tryz.prog.cellsOf 9=1:=by kernel_rfl
theorem Ev {W:World} (h:Lib.VarReads Tryz.prog W "lazaret/chains.effective" Rows.laid_lazaret_chains_effective):xL W:=by
 obtain⟨g',t',cs,fuel,p,OZ,PI,pK,hd⟩:=h;obtain rfl:=Option.some.inj (YR.symm.trans OZ);obtain rfl:=Option.some.inj ((show(Tryz.prog.globals[1]?).map (·.type)=some 120 by kernel_rfl).symm.trans PI);obtain⟨xs,m,_,hx,_,o7,bc⟩:=DataW.trod_array Tryz.underlying120 hd;have e:(Rows.laid_lazaret_chains_effective:DataW Unit)=.agg (Lz.qE.map fun l=>.lit (.string l)):=by kernel_rfl
 have hm:=congrArg Prod.fst hx;rw[e]at hm
 dsimp only at hm
 injection hm with hm
 have hc:∀i,i<17->W.cell? ⟨1,i,none⟩=some (.string ⟨(Lz.qE.getD i []).toArray⟩):=by
  intro i hi;have h1:=bc i hi;rw[Ry,Nat.mul_one,List.getElem?_eq_getElem (by rw[o7];exact hi)]at h1;obtain⟨s,hs,hy,_⟩:=DataW.trod_string (Tryz.underlying9) h1;have P2:(xs[i]'(by rw[o7];exact hi)).1=.lit (.string s.data.toList):=by rw[hy]
  have hl:i<Lz.qE.length:=hi;have h2:(xs.map (·.1))[i]? =(Lz.qE.map fun l=>(.lit (.string l):DataW Unit))[i]? :=by rw[hm]
  rw[List.getElem?_map,List.getElem?_map,List.getElem?_eq_getElem (by rw[o7];exact hi),List.getElem?_eq_getElem hl,Option.map_some,Option.map_some,P2]at h2
  have h3:s.data.toList=Lz.qE[i]:=by
   have:=Option.some.inj h2;injection this with this
   injection this
  have h4:=congrArg (fun l:List Value=>l[0]?) hs;simp only[List.getElem?_take,List.getElem?_drop,Nat.add_zero]at h4;rw[World.var?_cell YR pK i,<-Array.getElem?_toList,List.getD_eq_getElem?_getD,List.getElem?_eq_getElem hl,Option.getD_some,<-h3];simpa using h4
 exact⟨World.block_lt_of_cell? _ _ (hc 0 (by omega)),hc⟩
theorem zV (k:Int) (zd:DataW Unit):(Rows.laid_lazaret_judge_inline (H:=Unit)).atKey (.int .i64 k) zd=if Lz.fR k=0 then zd else .lit (.int .i64 (Lz.fR k)):=by
 by_cases h2:k=2
 ·subst h2;rfl
 by_cases h3:k=3
 ·subst h3;rfl
 by_cases h4:k=4
 ·subst h4;rfl
 by_cases h6:k=6
 ·subst h6;rfl
 by_cases h7:k=7
 ·subst h7;rfl
 have e0:Lz.fR k=0:=by
  unfold Lz.fR;rw[if_neg h2,if_neg h3,if_neg h4,if_neg h6,if_neg h7]
 rw[if_pos e0];unfold Rows.laid_lazaret_judge_inline DataW.atKey
 simp[Lit.sameKey,Ne.symm h2,Ne.symm h3,Ne.symm h4,Ne.symm h6,Ne.symm h7]
open Go.WideElems Go.Maps in
theorem xW {W:World} (h:Lib.VarReads Tryz.prog W "lazaret/judge.inline" Rows.laid_lazaret_judge_inline):ou W:=by
 obtain⟨g',t',cs,fuel,p,OZ,PI,pK,hd⟩:=h;obtain rfl:=Option.some.inj (Zb.symm.trans OZ);obtain rfl:=Option.some.inj ((show(Tryz.prog.globals[0]?).map (·.type)=some 89 by kernel_rfl).symm.trans PI);have bc:=World.var?_cell Zb pK 0;rcases WideElems.open_map Tryz.underlying89 hd with⟨_,hx⟩|⟨bm,es,clock,n,_,iZ,hb,_,F,hx⟩
 ·cases (congrArg Prod.fst hx)
 ·have qP:cs[0]? =some (.map (some bm)):=by rw[<-Array.getElem?_toList,iZ];rfl
  refine⟨bm,es,clock,by rw[bc];exact qP,(Array.getElem?_eq_some_iff.1 hb).1,hb,fun k W' hk Mc=>?_⟩;have Wd:keyOf Tryz.prog 3 (.int .i64 k)=some (.int .i64 k):=keyOf_int_mk Tryz.underlying3 (WalkArith.wf_i64 (by have:=hk.1;have:=hk.2;omega));have hm:=congrArg Prod.fst hx
  dsimp only at hm
  rcases Maps.fit_look true (int_keyed Tryz.underlying3) Tryz.underlying89 (z:=.int .i64 0) (w:=W') (by kernel_rfl) Mc F Wd with⟨oT,_,mR⟩|⟨e0,y,_,_,oT,hR,mR,_⟩
  ·have hn:Lz.fR k=0:=by
    have h1:=mR (.lit (.bool true));rw[<-hm,zV]at h1;split at h1
    ·assumption
    ·cases h1
   rw[oT,hn];rfl
  ·obtain⟨a,ha,hz,_⟩:=elemAt_int Tryz.underlying3 hR;have h1:=mR (.lit (.bool true));rw[<-hm,zV,hz]at h1;split at h1
   ·cases h1
   ·rename_i ed;injection h1 with h1
    injection h1 with _ h1
    rw[oT,ha,<-h1,bne_iff_ne.2 ed];rfl
theorem Ux:ownKnob Tryz.prog.godebug=none:=by kernel_rfl
theorem AB {W:World} (h:laidMetH Tryz.prog Rows.judgeMoreRow.laid W) (qW:W.ShapedOpen Tryz.prog):ot W:=
 Bt h qW (.tail _ (.tail _ (.head _))) (.tail _ (.tail _ (.tail _ (.tail _ (.tail _ (.tail _ (.head _))))))) (.tail _ (.tail _ (.tail _ (.tail _ (.tail _ (.tail _ (.tail _ (.head _)))))))) (.tail _ (.tail _ (.tail _ (.tail _ (.tail _ (.tail _ (.tail _ (.tail _ (.head _))))))))) (.tail _ (.head _)) (.tail _ (.tail _ (.tail _ (.tail _ (.tail _ (.tail _ (.tail _ (.tail _ (.tail _ (.tail _ (.tail _ (.tail _ (.tail _ (.head _)))))))))))))) (.tail _ (.tail _ (.tail _ (.tail _ (.tail _ (.head _))))))
theorem wl {W:World} (h:laidMetH Tryz.prog Rows.judgeMoreRow.laid W) (qW:W.ShapedOpen Tryz.prog):mG vk nN W:=
 ⟨⟨Ra (AB h qW).h (AB h qW) h (.tail _ (.tail _ (.tail _ (.tail _ (.tail _ (.tail _ (.tail _ (.tail _ (.tail _ (.tail _ (.head _))))))))))) (.tail _ (.tail _ (.tail _ (.tail _ (.tail _ (.tail _ (.tail _ (.tail _ (.tail _ (.tail _ (.tail _ (.head _)))))))))))),RH (dR h (.tail _ (.tail _ (.tail _ (.head _)))) rfl),QQ (dR h (.tail _ (.tail _ (.tail _ (.tail _ (.head _))))) rfl)⟩,
   Ev (dR h (.tail _ (.tail _ (.tail _ (.tail _ (.tail _ (.tail _ (.tail _ (.tail _ (.tail _ (.head _)))))))))) rfl),xW (dR h (.tail _ (.tail _ (.tail _ (.tail _ (.tail _ (.tail _ (.tail _ (.tail _ (.tail _ (.tail _ (.tail _ (.tail _ (.head _))))))))))))) rfl)⟩
def yY:DataW Unit->Array Value
 | .agg l=>(l.filterMap fun| .lit (.int k z)=>some (Value.int k z)|_=>none).toArray
 | _=> #[]
noncomputable def lN (os:Os):World:=
 {World.doorLaid Tryz.prog 200 os with heap:=(World.doorLaid Tryz.prog 200 os).heap.modify 5 fun
  | .cells _ t frozen=>.cells (yY Rows.laid_unicode_utf8_first) t frozen
  | o=>o}
theorem UU (os:Os) (args:Array Value):laidMetH Tryz.prog Rows.judgeMoreRow.laid ((lN os).forCall (fun _ _=>0) ⟨#[],args,[]⟩).memory:=
 laidMetH_of_parts3 (fuel:=8) (laidMet_of_run3 8 (by kernel_rfl) (by kernel_rfl) (by kernel_rfl)) (by kernel_rfl) (by kernel_rfl)
theorem UE {a b:Bool} (h1:a=true) (h2:b=true):(a&&b)=true:=by rw[h1,h2];rfl
theorem Vx:Tryz.prog.mayEnter=true:=by kernel_rfl
theorem N8:(Rows.judgeMoreRow.lifted==Tryz.prog.liftsFinal)=true:=by kernel_rfl
theorem Nf:(Tryz.prog.make==some Rows.judgeMoreRow.make)=true:=by kernel_rfl
theorem MK:mapsRowed Tryz.prog=true:=by kernel_rfl
theorem MM:(Rows.judgeMoreRow.plainKeys==Tryz.prog.plainKeys)=true:=by kernel_rfl
theorem GD:Tryz.prog.stopsHeard=true:=by kernel_rfl
end Go.Proofs.YtecoeebjaleeiaaGreatDoor
