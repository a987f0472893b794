/-
  From what the rows of lazaretlaw31 hand over to what the walks ask: a policy, a slice of policies, an item.
-/
import Derived.Test.YtecoeebjaleeiaaGreatDoorJ42
import Derived.Test.YtecoeebjaleeiaaGreatDoorJ38
set_option maxRecDepth 100000
namespace Go.Proofs.YtecoeebjaleeiaaGreatDoor
open Go.ChangeShapes Go.WideShapes Go.ChangeAt Go.RowKit
theorem NY:Tryz.prog.cellsOf 51=2:=by kernel_rfl
theorem EC:Tryz.prog.cellsOf 25=2:=by kernel_rfl
theorem J9:Tryz.prog.cellsOf 27=7:=by kernel_rfl
theorem Q4:Tryz.prog.cellsOf 23=1:=by kernel_rfl
theorem F3 {W:World} {b:Nat} {a:Addr} {l:List Value} (h:W.cells? b a 2=some l):∃c0 c1,l=[c0,c1]/\W.cell? a=some c0/\W.cell? (a.add 1)=some c1:=by
 have e0:a.add 0=a:=by simp[Addr.add]
 unfold World.cells? at h;split at h
 ·simp only[List.range_succ,List.range_zero,List.nil_append,List.cons_append,List.mapM_cons,List.mapM_nil,e0]at h;cases h0:W.cell? a with
  | none=>simp[h0]at h
  | some c0=>
    cases h1:W.cell? (a.add 1)with
    | none=>simp[h0,h1]at h
    | some c1=>simp[h0,h1]at h;exact⟨c0,c1,h.symm,rfl,rfl⟩
 ·cases h
section
variable {H:Type} {enc:TypeId×Value->H} {W:World} {base:Nat} {sp:Nat->Bool} {hd:Bool} {v:Value} {fuel:Nat} {x:DataW H×List MemPlace}
theorem UX {c0 c1:Value} (h:DataW.trod enc Tryz.prog W base sp hd fuel 51 [c0,c1]=some x):∃(nm:ByteArray) (l:List (List UInt8)),c0=.string nm/\bd W c1 l:=by
 obtain⟨xs,n,_,_,_,ba,hx⟩:=DataW.trod_struct Tryz.underlying51 h;have mO:∀i,i<2->xs[i]?.isSome=true:=fun i hi=>by rw[List.getElem?_eq_getElem (by rw[ba];exact hi)];rfl
 obtain⟨nm,rfl⟩:=mg (iQ (hx 0 _ rfl) rfl kV rfl) (mO 0 (by omega));obtain⟨l,hl⟩:=K2 (iQ (hx 1 _ rfl) rfl Qr rfl) (mO 1 (by omega));exact⟨nm,l,rfl,hl⟩
theorem Qn {a:Addr} {c:Value} (h:W.cell? (a.add 0)=some c):a.spot=none:=by
 simpa [Addr.add]using World.cell?_spot h
theorem Ee {α:Type} {t e:TypeId} (R:Value->Value->α->Prop) (hu:Tryz.prog.underlying t=some (.slice e)) (he:Tryz.prog.cellsOf e=2)
  (hR:∀n c0 c1 (y:DataW H×List MemPlace),DataW.trod enc Tryz.prog W base sp hd n e [c0,c1]=some y->∃z,R c0 c1 z)
  (h:DataW.trod enc Tryz.prog W base sp hd fuel t [v]=some x):
  ∃(a:Option Addr) (c:Nat) (zs:List α),v=.slice a zs.length c/\zs.length<=c/\∀(j:Nat) (z:α),zs[j]? =some z->∃g off c0 c1,a=some ⟨g,off,none⟩/\W.cell? ⟨g,off+j*2,none⟩=some c0/\W.cell? ⟨g,off+j*2+1,none⟩=some c1/\R c0 c1 z:=by
 rcases DataW.trod_slice hu h with⟨h0,_⟩|⟨a,len,cap,elems,rest,n,_,iZ,_,_,iW,_,ba,hel,uK⟩
 ·obtain rfl:=List.singleton_inj.1 h0;exact⟨none,0,[],rfl,Nat.le_refl _,fun j z hj=>by simp at hj⟩
 ·obtain rfl:=List.singleton_inj.1 iZ
  have bc:∀i,i<len->∃c0 c1 z,W.cell? (a.add (i*2))=some c0/\W.cell? ((a.add (i*2)).add 1)=some c1/\R c0 c1 z:=by
   intro i hi;have hE:=hel i hi;rw[he,List.getElem?_eq_getElem (by rw[ba];exact hi)]at hE;simp only[Option.bind_eq_some_iff]at hE;obtain⟨l,hl,hy⟩:=hE;obtain⟨c0,c1,rfl,h0,h1⟩:=F3 hl;obtain⟨z,hz⟩:=hR _ _ _ _ hy;exact⟨c0,c1,z,h0,h1,hz⟩
  have hz:∃zs:List α,zs.length=len/\∀(j:Nat) (z:α),zs[j]? =some z->∃c0 c1,W.cell? (a.add (j*2))=some c0/\W.cell? ((a.add (j*2)).add 1)=some c1/\R c0 c1 z:=by
   clear hel ba iZ iW uK h
   induction len with
   | zero=>exact⟨[],rfl,fun j z hj=>by simp at hj⟩
   | succ m ih=>
     obtain⟨zs,h1,h2⟩:=ih (fun i hi=>bc i (by omega));obtain⟨c0,c1,z,k0,k1,kz⟩:=bc m (by omega);refine⟨zs++[z],by simp[h1],fun j y hj=>?_⟩;rcases Nat.lt_or_ge j zs.length with h'|h'
     ·rw[List.getElem?_append_left h']at hj;exact h2 j y hj
     ·rw[List.getElem?_append_right h']at hj
      have tM:j=m:=by
       have:=(List.getElem?_eq_some_iff.1 hj).1
       simp at this;omega
      subst tM;rw[h1,Nat.sub_self]at hj;obtain rfl:z=y:=by simpa using hj
      exact⟨c0,c1,k0,k1,kz⟩
  obtain⟨zs,h1,h2⟩:=hz;refine⟨some a,cap,zs,by rw[h1],by rw[h1];exact iW,fun j z hj=>?_⟩;obtain⟨c0,c1,k0,k1,kz⟩:=h2 j z hj;obtain⟨c0',_,_,k0',_⟩:=bc 0 (by have:=(List.getElem?_eq_some_iff.1 hj).1;omega);rw[Nat.zero_mul]at k0';have hs:=Qn k0';clear k0';obtain⟨B,off,Ip⟩:=a;obtain rfl:Ip=none:=hs;rw[Go.WideShapes.add_plain]at k0;rw[Go.WideShapes.add_plain,Go.WideShapes.add_plain]at k1;exact⟨B,off,c0,c1,rfl,k0,k1,kz⟩
theorem RO (h:DataW.trod enc Tryz.prog W base sp hd fuel 23 [v]=some x):∃ds,dx W v ds:=by
 obtain⟨a,c,zs,rfl,_,hz⟩:=Ee (α:=aD) (fun c0 c1 d=>c0=.string d.name/\c1=d.v/\bd W d.v d.vals) Tryz.underlying23 NY (fun n c0 c1 y hy=>by
  obtain⟨nm,l,rfl,hl⟩:=UX hy;exact⟨⟨nm,c1,l⟩,rfl,rfl,hl⟩) h
 refine⟨zs,a,c,rfl,fun j d hj=>?_⟩;obtain⟨g,off,c0,c1,rfl,h0,h1,rfl,rfl,hp⟩:=hz j d hj;exact⟨g,off,rfl,h0,h1,hp⟩
theorem Mv {c0 c1:Value} (h:DataW.trod enc Tryz.prog W base sp hd fuel 25 [c0,c1]=some x):∃p:aE,c0=p.v/\c1=.bool p.rep/\dx W p.v p.ds:=by
 obtain⟨xs,n,_,_,_,ba,hx⟩:=DataW.trod_struct Tryz.underlying25 h;have mO:∀i,i<2->xs[i]?.isSome=true:=fun i hi=>by rw[List.getElem?_eq_getElem (by rw[ba];exact hi)];rfl
 obtain⟨y0,VS⟩:=Option.isSome_iff_exists.1 (mO 0 (by omega));obtain⟨ds,SM⟩:=RO ((iQ (hx 0 _ rfl) rfl Q4 rfl).trans VS);obtain⟨b,rfl⟩:=K0 (iQ (hx 1 _ rfl) rfl Q9 rfl) (mO 1 (by omega));exact⟨⟨c0,ds,b⟩,rfl,rfl,SM⟩
theorem Qw (h:DataW.trod enc Tryz.prog W base sp hd fuel 22 [v]=some x):∃ps,eW W v ps/\∀a n c,v=.slice a n c->n<=c:=by
 obtain⟨a,c,zs,rfl,iW,hz⟩:=Ee (α:=aE) (fun c0 c1 p=>c0=p.v/\c1=.bool p.rep/\dx W p.v p.ds) Tryz.underlying22 EC (fun n c0 c1 y hy=>Mv hy) h;refine⟨zs,⟨a,c,rfl,fun j p hj=>?_⟩,fun a' n' c' e=>by injection e with _ e2 e3;rw[<-e2,<-e3];exact iW⟩;obtain⟨g,off,c0,c1,rfl,h0,h1,rfl,rfl,hp⟩:=hz j p hj;exact⟨g,off,rfl,h0,h1,hp⟩
end
section
variable {H:Type} {enc:TypeId×Value->H} {W:World} {base:Nat} {sp:Nat->Bool} {hd:Bool} {v:Value} {d:DataW H} {ps:List MemPlace} {r:Reach} {b0:Nat}
theorem ET (hv:Value.okWide Tryz.prog W r b0 22 v) (h:DataW.Trod enc Tryz.prog W base sp hd 22 v d ps):∃l,eW W v l/\∀a n c,v=.slice a n c->n<=c:=by
 obtain⟨a0,acr,aaR,rfl⟩:=okWide_slice Tryz.underlying22 hv;obtain⟨fuel,hf⟩:=h;exact Qw (show DataW.trod enc Tryz.prog W base sp hd fuel 22 [.slice a0 acr aaR]=some (d,ps)from hf)
theorem Rv (hv:Value.okWide Tryz.prog W r b0 25 v) (h:DataW.Trod enc Tryz.prog W base sp hd 25 v d ps):∃p:aE,v=p.val/\dx W p.v p.ds:=by
 simp only[Value.okWide,Tryz.underlying25]at hv;obtain⟨⟨cs⟩,rfl,ju,_⟩:=hv;rw[EC]at ju;obtain⟨fuel,hf⟩:=h
 match cs,ju with
 | [a,b],_=>
   obtain⟨p,rfl,rfl,hp⟩:=Mv (show DataW.trod enc Tryz.prog W base sp hd fuel 25 [a,b]=some (d,ps)from hf);exact⟨p,rfl,hp⟩
theorem FA {α:Type} {n:Nat} {l:List α} (h:l.length=n+1):∃a r,l=a::r/\r.length=n:=by
 cases l with
 | nil=>cases h
 | cons a r=>exact⟨a,r,rfl,Nat.succ.inj h⟩
theorem abn {α:Type} {l:List α} (h:l.length=7):∃a b c d e f g,l=[a,b,c,d,e,f,g]:=by
 obtain⟨a,l0,rfl,h0⟩:=FA h;obtain⟨b,l1,rfl,h1⟩:=FA h0;obtain⟨c,l2,rfl,h2⟩:=FA h1;obtain⟨d,l3,rfl,h3⟩:=FA h2;obtain⟨e,l4,rfl,h4⟩:=FA h3;obtain⟨f,l5,rfl,h5⟩:=FA h4;obtain⟨g,l6,rfl,h6⟩:=FA h5;obtain rfl:=List.eq_nil_of_length_eq_zero h6;exact⟨a,b,c,d,e,f,g,rfl⟩
theorem Jq (hv:Value.okWide Tryz.prog W r b0 27 v) (h:DataW.Trod enc Tryz.prog W base sp hd 27 v d ps):∃x:bh,v=x.val/\Ik x.kind:=by
 simp only[Value.okWide,Tryz.underlying27]at hv;obtain⟨⟨cs⟩,rfl,ju,_⟩:=hv;rw[J9]at ju;obtain⟨fuel,hf⟩:=h;obtain⟨a,b,c,e,f,g,i,rfl⟩:=abn ju
 ·obtain⟨xs,n,_,_,_,ba,hx⟩:=DataW.trod_struct Tryz.underlying27 (show DataW.trod enc Tryz.prog W base sp hd fuel 27 [a,b,c,e,f,g,i]=some (d,ps)from hf);have mO:∀i,i<7->xs[i]?.isSome=true:=fun i hi=>by rw[List.getElem?_eq_getElem (by rw[ba];exact hi)];rfl
  obtain⟨k,rfl,yx,zo⟩:=EO (iQ (hx 0 _ rfl) rfl cellsIn rfl) (mO 0 (by omega));obtain⟨n,rfl,_,_⟩:=EO (iQ (hx 1 _ rfl) rfl cellsIn rfl) (mO 1 (by omega));obtain⟨s2,rfl⟩:=mg (iQ (hx 2 _ rfl) rfl kV rfl) (mO 2 (by omega));obtain⟨s3,rfl⟩:=mg (iQ (hx 3 _ rfl) rfl kV rfl) (mO 3 (by omega));obtain⟨s4,rfl⟩:=mg (iQ (hx 4 _ rfl) rfl kV rfl) (mO 4 (by omega));obtain⟨s5,rfl⟩:=mg (iQ (hx 5 _ rfl) rfl kV rfl) (mO 5 (by omega));obtain⟨s6,rfl⟩:=mg (iQ (hx 6 _ rfl) rfl kV rfl) (mO 6 (by omega));exact⟨⟨k,n,s2,s3,s4,s5,s6⟩,rfl,yx,zo⟩
end
end Go.Proofs.YtecoeebjaleeiaaGreatDoor
