/-
  Policies appended to a row of one's own, in a region that draws (for lazaretlaw31.JudgeMore).
-/
import Derived.Test.YtecoeebjaleeiaaGreatDoorJ44
namespace Go.Proofs.YtecoeebjaleeiaaGreatDoor
open Go.RowKit
attribute [local go_sem ↓] Go.wp_at_zero Go.wp_at_succ
theorem BX:(Tryz.prog.info? 25).map (fun i=>(i.zero,i.size,i.bytes))=some (some (.agg #[.slice none 0 0,.bool false]),2,32):=by kernel_rfl
def aE.row (p:aE):List Value:=[p.v,.bool p.rep]
theorem Lo (ys:List aE):(ys.flatMap aE.row).length=ys.length*2:=by
 induction ys with
 | nil=>rfl
 | cons x r ih=>rw[List.flatMap_cons,List.length_append,ih,List.length_cons];show 2+_=_;omega
theorem DV (ys:List aE):∀(j:Nat) (y:aE),ys[j]? =some y->∀k u,y.row[k]? =some u->(ys.flatMap aE.row)[j*2+k]? =some u:=by
 induction ys with
 | nil=>intro j d h;simp at h
 | cons x r ih=>
   intro j d h k u hk;have XY:k<2:=(List.getElem?_eq_some_iff.1 hk).1;cases j with
   | zero=>obtain rfl:x=d:=by simpa using h
           rw[List.flatMap_cons,List.getElem?_append_left (by show 0*2+k<2;omega),Nat.zero_mul,Nat.zero_add];exact hk
   | succ j=>
     rw[List.flatMap_cons,List.getElem?_append_right (by show 2<=_;omega),show(j+1)*2+k-x.row.length=j*2+k by show(j+1)*2+k-2=_;omega];exact ih j d (by simpa using h) k u hk
theorem KK (ys:List aE):∀(j:Nat) (u:Value),(ys.flatMap aE.row)[j]? =some u->∃k y,ys[k]? =some y/\((j=k*2/\u=y.v)\/(j=k*2+1/\u=.bool y.rep)):=by
 induction ys with
 | nil=>intro j u h;simp at h
 | cons x r ih=>
   intro j u h;rw[List.flatMap_cons]at h
   match j,h with
   | 0,h=>exact⟨0,x,rfl,Or.inl ⟨rfl,(Option.some.inj h).symm⟩⟩
   | 1,h=>exact⟨0,x,rfl,Or.inr ⟨rfl,(Option.some.inj h).symm⟩⟩
   | j+2,h=>
     rw[List.getElem?_append_right (by show 2<=_;omega),show j+2-x.row.length=j from by show j+2-2=j;omega]at h;obtain⟨k,y,h1,h2⟩:=ih j u h;exact⟨k+1,y,by simpa using h1,h2.imp (fun h=>⟨by omega,h.2⟩) (fun h=>⟨by omega,h.2⟩)⟩
theorem Om (ys:List aE):∀u∈ys.flatMap aE.row,(∀y∈ys,y.v.oneCell'=true)->u.oneCell'=true:=by
 intro u hu h;obtain⟨y,hy,hu⟩:=List.mem_flatMap.1 hu;simp only[aE.row,List.mem_cons,List.not_mem_nil,or_false]at hu;rcases hu with rfl|rfl
 ·exact h y hy
 ·rfl
theorem dx.one {w:World} {v:Value} {ds:List aD} (h:dx w v ds):v.oneCell'=true:=by
 obtain⟨a,c,rfl,_⟩:=h;rfl
def eT (w:World) (B:Nat) (v:Value) (ys:List aE):Prop:=w.ownsRow B 25 2 v ys.length (ys.flatMap aE.row)
theorem eT.at {w:World} {B:Nat} {v:Value} {ys:List aE} (h:eT w B v ys) (hd:∀y∈ys,dx w y.v y.ds):eW w v ys:=by
 rcases h.2 with⟨rfl,h0⟩|⟨g,cap,dB,rfl,hgb,hg,hn,gL,iZ,gH⟩
 ·have:ys=[]:=List.eq_nil_of_length_eq_zero h0;subst this;exact⟨none,0,rfl,fun j d hd=>by simp at hd⟩
 ·refine⟨some ⟨g,0,none⟩,cap,rfl,fun j d hj=>⟨g,0,rfl,?_,?_,hd d (List.mem_of_getElem? hj)⟩⟩
  ·have e:=World.ownsRow.cells h (g:=g) rfl _ _ (DV ys j d hj 0 d.v rfl);rw[bV]at e;rw[Nat.zero_add];exact e
  ·have e:=World.ownsRow.cells h (g:=g) rfl _ _ (DV ys j d hj 1 (.bool d.rep) rfl);rw[bV]at e;rw[Nat.zero_add];exact e
theorem eT.below {w w':World} {B:Nat} {v:Value} {ys:List aE} (h:eT w B v ys) (hb:Below w.heap.size w w'):eT w' B v ys:=bH h hb
theorem ec.below {w w':World} {B:Nat} {v:Value} {ys:List bJ} (h:ec w B v ys) (hb:Below w.heap.size w w'):ec w' B v ys:=bH h hb
theorem Ep {w w':World} {B:Nat} {v:Value} {ys:List aE} {b:Nat} {C:Array Value} {T:TypeId} (hg:w.grownBy w' v.ownBlock) (h:eT w B v ys) (hC:w.heap[b]? =some (.cells C T (0,0))) (hT:T≠25):w'.heap[b]? =some (.cells C T (0,0)):=by
 rw[hg.block b (af hC) (fun e=>?_)]
 ·exact hC
 ·rcases h.2 with⟨rfl,_⟩|⟨g,cap,dB,rfl,_,h2,_⟩
  ·cases e
  ·cases e;rw[hC]at h2;injection h2 with h2
   injection h2 with _ h2 _
   exact hT h2
theorem DE {w:World} {B g:Nat} {v:Value} {ys:List bJ} {C:Array Value} (h:ec w B v ys) (hC:w.heap[g]? =some (.cells C 37 (0,0))) (D:Array Value):ec (w.setRow g D) B v ys:=by
 refine World.ownsRow.kept h (fG w _ _) (.inr (fun e=>?_));rcases h.2 with⟨rfl,_⟩|⟨g',cap,dB,rfl,_,h2,_⟩
 ·cases e
 ·cases e;rw[hC]at h2;injection h2 with h2
  injection h2 with _ h2 _
  exact absurd h2 (by decide)
theorem abr {a b c d e:Prop} [Decidable a] [Decidable b] [Decidable c] [Decidable d] [Decidable e] (g:Bool) (ha:¬a) (hb:¬b) (hc:¬c) (hd:¬d) (he:¬e):decide (a\/b\/c\/d\/e\/g=true)=g:=by simp[ha,hb,hc,hd,he]
theorem tk (w:World) (c:Nat):(Builtin.append_ #[22,22] 22 #[.slice none 0 0,.slice none 0 c]).run Tryz.prog w=.ok (.slice none 0 0) w:=by
 obtain⟨i0,hi,fI,ei,eM⟩:=info_parts BX
 simp[Builtin.append_,run_underlying Tryz.underlying22,sizeOf,typeInfo,hi,Builtin.lenOf,Builtin.firstCells]
theorem iO {w:World} {o:Oper} {a:Act} {K:Act->World->Prop} {Q:Exit->Act->World->Prop} (s x:Operand)
  (ho:o.op=.call {callee:=.builtin .append,args:= #[s,x],argTypes:= #[22,22]}) (LZ:o.type=22) (base:Nat) (la:Option Addr) (n lc:Nat) (ys:List aE) (hs:a.eval s=.slice none 0 0) (hx:a.eval x=.slice la n lc)
  (hp:eW w (.slice la n lc) ys) (hn:n=ys.length) (hL:n<=1000000) (fA:base<=w.heap.size)
  (h:∀v' w',eT w' base v' ys->w.grownBy w' none->K (a.put o.dst v') w'):Oper.wp Tryz.prog o a w K Q:=by
 obtain⟨i0,hi,fI,ei,eM⟩:=info_parts BX;obtain⟨a1,c1,he,hc⟩:=hp;injection he with e1 e2 e3
 subst e1;subst e3;cases la with
 | none=>
   have h0:ys=[]:=by
    cases ys with
    | nil=>rfl
    | cons y r=>obtain⟨B,off,e,_⟩:=hc 0 y rfl;cases e
   subst h0;obtain rfl:n=0:=hn;have hr:=tk w lc;unfold Oper.wp execOp;simp only[ho,LZ,resolve,invoke,builtin,Sem.run_bind,Sem.run_pure,Result.andThen_ok,List.map_toArray,List.map_cons,List.map_nil,hs,hx,hr];exact h _ _ (World.ownsRow_nil _ _ _ _) ⟨rfl,rfl,rfl,Nat.le_refl _,fun _ _ _=>rfl⟩
 | some ad=>
   obtain⟨v',w',hr,h2,h3,h4,h5⟩:=run_append_own_at (P:=Tryz.prog) w base 22 22 25 i0 (.agg #[.slice none 0 0,.bool false]) 2 32 Tryz.underlying22 hi fI ei eM rfl (by decide) (.slice none 0 0) 0 [] (World.ownsRow_nil _ _ _ _) ad n lc (ys.flatMap aE.row) (by rw[Lo,hn]) (fun j u hj=>by
    obtain⟨k,y,hy,SJ⟩:=KK ys j u hj;obtain⟨B,off,e,qP,iD,_⟩:=hc k y hy;obtain rfl:=Option.some.inj e;rw[show(⟨B,off,none⟩:Addr).add j=⟨B,off+j,none⟩ by unfold Addr.add;split<;>simp_all];rcases SJ with⟨rfl,rfl⟩|⟨rfl,rfl⟩
    ·exact qP
    ·exact iD) (fun u hu=>Om ys u hu (fun y hy=>by
     obtain⟨j,hj⟩:=List.getElem?_of_mem hy;obtain⟨_,_,_,_,_,hd⟩:=hc j y hj;exact hd.one)) (by unfold maxLen;omega) (by omega) fA
   rw[Nat.zero_add,List.nil_append,hn]at h2;unfold Oper.wp execOp;simp only[ho,LZ,resolve,invoke,builtin,Sem.run_bind,Sem.run_pure,Result.andThen_ok,List.map_toArray,List.map_cons,List.map_nil,hs,hx,hr];exact h _ _ h2 h3
theorem nG {w:World} {o:Oper} {a:Act} {K:Act->World->Prop} {Q:Exit->Act->World->Prop} (s x:Operand)
  (ho:o.op=.call {callee:=.builtin .append,args:= #[s,x],argTypes:= #[22,22]}) (LZ:o.type=22) (base:Nat) (v:Value) (ys:List aE) (hs:a.eval s=v) (au:eT w base v ys) (Bm:Nat) (c:Nat) (p:aE) (hx:a.eval x=.slice (some ⟨Bm,0,none⟩) 1 c) (hp:w.heap[Bm]? =some (.cells #[p.v,.bool p.rep] 25 (0,0))) (h1c:p.v.oneCell'=true)
  (hL:ys.length<=1000000) (fA:base<=w.heap.size)
  (h:∀v' w',eT w' base v' (ys++[p])->w.grownBy w' v.ownBlock->K (a.put o.dst v') w'):Oper.wp Tryz.prog o a w K Q:=by
 obtain⟨i0,hi,fI,ei,eM⟩:=info_parts BX
 obtain⟨v',w',hr,h2,h3,h4,h5⟩:=run_append_own_at (P:=Tryz.prog) w base 22 22 25 i0 (.agg #[.slice none 0 0,.bool false]) 2 32 Tryz.underlying22 hi fI ei eM rfl (by decide) v ys.length _ au ⟨Bm,0,none⟩ 1 c [p.v,.bool p.rep] rfl (fun j u hj=>by
  match j,hj with
  | 0,hj=>
    obtain rfl:=Option.some.inj hj;rw[bV];exact rowAt hp 0 _ rfl
  | 1,hj=>
    obtain rfl:=Option.some.inj hj;rw[bV];exact rowAt hp 1 _ rfl) (fun u hu=>by
  simp only[List.mem_cons,List.not_mem_nil,or_false]at hu;rcases hu with rfl|rfl
  ·exact h1c
  ·rfl) (by unfold maxLen;omega) (by omega) fA
 have e1:ys.flatMap aE.row++[p.v,.bool p.rep]=(ys++[p]).flatMap aE.row:=by rw[List.flatMap_append];rfl
 have e2:ys.length+1=(ys++[p]).length:=by simp
 rw[e1,e2]at h2;unfold Oper.wp execOp;simp only[ho,LZ,resolve,invoke,builtin,Sem.run_bind,Sem.run_pure,Result.andThen_ok,List.map_toArray,List.map_cons,List.map_nil,hs,hx,hr];exact h _ _ h2 h3
end Go.Proofs.YtecoeebjaleeiaaGreatDoor
