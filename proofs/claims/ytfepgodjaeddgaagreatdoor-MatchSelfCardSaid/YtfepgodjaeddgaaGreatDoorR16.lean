/-
  Plain laws: a document's own URLs, those of other hosts, ports and schemes. No condition.
-/
import Derived.Test.YtfepgodjaeddgaaGreatDoorR15
import Derived.Test.YtfepgodjaeddgaaGreatDoorR13
import Derived.Lib.RuneCountTail
import Derived.Shelf.Spec.DecodeLastRune8
import Derived.Lib.TrimAscii
set_option maxHeartbeats 4000000
set_option maxRecDepth 100000
namespace Go.Proofs.YtfepgodjaeddgaaGreatDoor
open Go.RowKit
theorem Join_nn (g:Nat) (w:World) (h0:w.cell? ⟨g,0,none⟩=some .nilIface) (h1:w.cell? ⟨g,1,none⟩=some .nilIface):
  Calls Tryz.prog 210 #[.slice (some ⟨g,0,none⟩) 2 2] w fun e w'=>e=.returned .nilIface/\w=w':=by
 go_enter Tryz.func210,Tryz.ntmps210
 go_wp2
 refine wp_loop_rounds 3 ?_;rw[rounds_succ]
 go_wp2
 rw[rounds_succ]
 go_wp2
 rw[rounds_succ]
 go_wp2
 go_ret;exact⟨rfl,rfl⟩
def RJoin (v0:Value) (w:World) (e:Ending) (w':World):Prop:=
 ∃(p g len cap:Nat),e=.returned (.iface 242 (.pointer (some ⟨p,0,none⟩)))/\p<w'.heap.size/\g<w'.heap.size/\w'.cell? ⟨p,0,none⟩=some (.slice (some ⟨g,0,none⟩) len cap)/\1<=len/\len<=2/\
  w'.cell? ⟨g,0,none⟩=some v0/\Below w.heap.size w w'
theorem Join_ne (g:Nat) (t:TypeId) (v:Value) (w:World) (h0:w.cell? ⟨g,0,none⟩=some .nilIface) (h1:w.cell? ⟨g,1,none⟩=some (.iface t v)):
  Calls Tryz.prog 210 #[.slice (some ⟨g,0,none⟩) 2 2] w (RJoin (.iface t v) w):=by
 have hg:g<w.heap.size:=World.block_lt_of_cell? _ _ h0
 have f3:∀(k:Nat) (v:Value) (o1 o2 o3:Obj),w.cell? ⟨g,k,none⟩=some v->(((w.alloc o1).alloc o2).alloc o3).cell? ⟨g,k,none⟩=some v:=fun k v o1 o2 o3 h=>by
  rw[World.cell?_alloc_lt _ _ ⟨g,k,none⟩ (by simp;omega),World.cell?_alloc_lt _ _ ⟨g,k,none⟩ (by simp;omega),World.cell?_alloc_lt _ _ ⟨g,k,none⟩ hg];exact h
 have f30:=fun o1 o2 o3=>f3 0 _ o1 o2 o3 h0;have f31:=fun o1 o2 o3=>f3 1 _ o1 o2 o3 h1;clear f3;have hmk:∀w,(Instr.makeSlice 172 (.int .i64 0) (.int .i64 1)).run Tryz.prog w=.ok (.slice (some ⟨w.heap.size,0,none⟩) 0 1) (w.alloc (.cells #[.nilIface] 50)):=fun _=>by kernel_rfl
 go_enter Tryz.func210,Tryz.ntmps210
 go_wp2
 refine wp_loop_rounds 3 ?_;rw[rounds_succ]
 go_wp2
 rw[rounds_succ]
 go_wp2
 rw[rounds_succ]
 go_wp2
 refine wp_loop_rounds 3 ?_;rw[rounds_succ]
 go_wp2
 rw[rounds_succ]
 go_wp2
 rw[rounds_succ]
 go_wp2
 go_ret;refine⟨w.heap.size+1,w.heap.size,1,1,rfl,by simp;try omega,by simp;try omega,by go_simp,by decide,by decide,by go_simp,?_⟩
 repeat (first |exact Below.refl _ _|refine Below.alloc ?_ (by simp;try omega) _)
theorem Join_en (g:Nat) (t:TypeId) (v:Value) (w:World) (h0:w.cell? ⟨g,0,none⟩=some (.iface t v)) (h1:w.cell? ⟨g,1,none⟩=some .nilIface):
  Calls Tryz.prog 210 #[.slice (some ⟨g,0,none⟩) 2 2] w (RJoin (.iface t v) w):=by
 have hg:g<w.heap.size:=World.block_lt_of_cell? _ _ h0
 have f3:∀(k:Nat) (v:Value) (o1 o2 o3:Obj),w.cell? ⟨g,k,none⟩=some v->(((w.alloc o1).alloc o2).alloc o3).cell? ⟨g,k,none⟩=some v:=fun k v o1 o2 o3 h=>by
  rw[World.cell?_alloc_lt _ _ ⟨g,k,none⟩ (by simp;omega),World.cell?_alloc_lt _ _ ⟨g,k,none⟩ (by simp;omega),World.cell?_alloc_lt _ _ ⟨g,k,none⟩ hg];exact h
 have f30:=fun o1 o2 o3=>f3 0 _ o1 o2 o3 h0;have f31:=fun o1 o2 o3=>f3 1 _ o1 o2 o3 h1;clear f3;have hmk:∀w,(Instr.makeSlice 172 (.int .i64 0) (.int .i64 1)).run Tryz.prog w=.ok (.slice (some ⟨w.heap.size,0,none⟩) 0 1) (w.alloc (.cells #[.nilIface] 50)):=fun _=>by kernel_rfl
 go_enter Tryz.func210,Tryz.ntmps210
 go_wp2
 refine wp_loop_rounds 3 ?_;rw[rounds_succ]
 go_wp2
 rw[rounds_succ]
 go_wp2
 rw[rounds_succ]
 go_wp2
 refine wp_loop_rounds 3 ?_;rw[rounds_succ]
 go_wp2
 rw[rounds_succ]
 go_wp2
 rw[rounds_succ]
 go_wp2
 go_ret;refine⟨w.heap.size+1,w.heap.size,1,1,rfl,by simp;try omega,by simp;try omega,by go_simp,by decide,by decide,by go_simp,?_⟩
 repeat (first |exact Below.refl _ _|refine Below.alloc ?_ (by simp;try omega) _)
theorem Join_ee (g:Nat) (t:TypeId) (v:Value) (t2:TypeId) (v2:Value) (w:World) (h0:w.cell? ⟨g,0,none⟩=some (.iface t v)) (h1:w.cell? ⟨g,1,none⟩=some (.iface t2 v2)):
  Calls Tryz.prog 210 #[.slice (some ⟨g,0,none⟩) 2 2] w (RJoin (.iface t v) w):=by
 have hg:g<w.heap.size:=World.block_lt_of_cell? _ _ h0
 have f3:∀(k:Nat) (v:Value) (o1 o2 o3:Obj),w.cell? ⟨g,k,none⟩=some v->(((w.alloc o1).alloc o2).alloc o3).cell? ⟨g,k,none⟩=some v:=fun k v o1 o2 o3 h=>by
  rw[World.cell?_alloc_lt _ _ ⟨g,k,none⟩ (by simp;omega),World.cell?_alloc_lt _ _ ⟨g,k,none⟩ (by simp;omega),World.cell?_alloc_lt _ _ ⟨g,k,none⟩ hg];exact h
 have f30:=fun o1 o2 o3=>f3 0 _ o1 o2 o3 h0;have f31:=fun o1 o2 o3=>f3 1 _ o1 o2 o3 h1;clear f3;have hmk:∀w,(Instr.makeSlice 172 (.int .i64 0) (.int .i64 2)).run Tryz.prog w=.ok (.slice (some ⟨w.heap.size,0,none⟩) 0 2) (w.alloc (.cells #[.nilIface,.nilIface] 50)):=fun _=>by kernel_rfl
 go_enter Tryz.func210,Tryz.ntmps210
 go_wp2
 refine wp_loop_rounds 3 ?_;rw[rounds_succ]
 go_wp2
 rw[rounds_succ]
 go_wp2
 rw[rounds_succ]
 go_wp2
 refine wp_loop_rounds 3 ?_;rw[rounds_succ]
 go_wp2
 rw[rounds_succ]
 go_wp2
 rw[rounds_succ]
 go_wp2
 go_ret;refine⟨w.heap.size+1,w.heap.size,2,2,rfl,by simp;try omega,by simp;try omega,by go_simp,by decide,by decide,by go_simp,?_⟩
 repeat (first |exact Below.refl _ _|refine Below.alloc ?_ (by simp;try omega) _)
end Go.Proofs.YtfepgodjaeddgaaGreatDoor
namespace Lz
open Go
theorem hostedU_q {u v:UrlL} {r:Bs} (e:hostedU u r=.ok v) (hu:u.port= -1) (hu1:u.user=[]) (hu2:u.pass=[]):v.scheme=u.scheme/\v.query=u.query:=by
 unfold hostedU at e;obtain⟨w,hw,e⟩:=bind_ok e;obtain⟨us,pa,h,p,rfl,_⟩:=authU_ok hw hu hu1 hu2;injection e with e
 rw[<-e];split<;>exact⟨rfl,rfl⟩
theorem pathU_q (w b:UrlL) (r:Bs):(pathU w b r).scheme=w.scheme/\((pathU w b r).query=w.query\/(pathU w b r).query=b.query):=by
 unfold pathU;split
 ·exact⟨rfl,Or.inl rfl⟩
 ·split
  ·exact⟨rfl,Or.inl rfl⟩
  ·exact⟨rfl,Or.inr rfl⟩
theorem relU_q {u b v:UrlL} {r:Bs} (e:relU u b r=.ok v) (hu:Fresh u):v.scheme=u.scheme/\(v.query=u.query\/v.query=b.query):=by
 unfold relU at e;simp only at e;split at e
 ·have:=hostedU_q e hu.port hu.user hu.pass;exact⟨this.1,Or.inl this.2⟩
 ·split at e
  ·injection e with e
   rw[<-e];exact⟨rfl,Or.inl rfl⟩
  ·injection e with e
   rw[<-e];exact pathU_q (restU u b) b r
theorem filesU_q {u v:UrlL} {b:Option UrlL} {r:Bs} (e:filesU u b r=.ok v):v.scheme=u.scheme/\(v.query=u.query\/∃x,b=some x/\x.scheme=fileS/\v.query=x.query):=by
 unfold filesU at e;simp only at e;split at e
 ·split at e
  ·injection e with e
   rw[<-e];exact⟨rfl,Or.inl rfl⟩
  ·obtain⟨w,hw,e⟩:=bind_ok e;injection e with e
   rw[<-e];split at hw
   ·injection hw with hw
    rw[<-hw];split<;>exact⟨rfl,Or.inl rfl⟩
   ·obtain⟨h,rfl,hh⟩:=hostU_ok hw;split<;>exact⟨rfl,Or.inl rfl⟩
 ·split at e
  ·injection e with e
   rw[<-e];cases b with
   | none=>exact⟨rfl,Or.inl rfl⟩
   | some x=>
     simp only;split
     ·split<;>exact⟨rfl,Or.inl rfl⟩
     ·exact⟨rfl,Or.inl rfl⟩
  ·cases b with
   | none=>
     injection e with e
     rw[<-e];exact⟨rfl,Or.inl rfl⟩
   | some x=>
     simp only at e;split at e
     ·rename_i hx;split at e
      ·injection e with e
       rw[<-e];exact⟨rfl,Or.inl rfl⟩
      ·injection e with e
       rw[<-e];obtain⟨h1,h2⟩:=pathU_q {({u with hasHost:=true}:UrlL)with host:=x.host} x r;refine⟨h1,?_⟩;rcases h2 with h2|h2
       ·exact Or.inl h2
       ·exact Or.inr ⟨x,rfl,hx,h2⟩
     ·injection e with e
      rw[<-e];exact⟨rfl,Or.inl rfl⟩
theorem schemed_len {s:Bs} (h:(schemedP s).2.2=true):(schemedP s).1.length+1+(schemedP s).2.1.length=s.length:=by
 have hc:=cut_facts 58 s;rw[schemedP_eq]at h⊢;by_cases hh:schemeOk (Lib.cut s [58])=true
 ·rw[if_pos hh]
  have h1:(Lib.cut s [58]).2.2=true:=by
   unfold schemeOk at hh;simp only[Bool.and_eq_true]at hh;exact hh.1.1.1
  have:=congrArg List.length (hc.2.2.2 h1);rw[List.length_append,List.length_cons]at this;show(low (Lib.cut s [58]).1).length+1+(Lib.cut s [58]).2.1.length=_;unfold low;rw[List.length_map];omega
 ·rw[if_neg hh]at h;cases h
theorem mainU_all {u v:UrlL} {s:Bs} {b:Option UrlL} (e:mainU u s b=.ok v) (hu:Fresh u) (hb:∀x,b=some x->NU x):wt v<=bw b+3*s.length+120/\(v.query=u.query\/∃x,b=some x/\v.scheme=x.scheme/\v.query=x.query):=by
 have hfr:∀sch,Fresh {u with scheme:=sch}:=fun sch=>⟨hu.user,hu.pass,hu.hasHost,hu.host,hu.port,hu.opq,hu.path⟩;have hz:u.user.length=0/\u.pass.length=0/\u.host.length=0/\pl u.path=0:=by rw[hu.user,hu.pass,hu.host,hu.path];exact⟨rfl,rfl,rfl,rfl⟩
 unfold mainU at e;simp only at e;cases hok:(schemedP s).2.2 with
 | true=>
   have hlen:=schemed_len hok;rw[hok,if_pos rfl]at e;generalize (schemedP s).1=sch at e hlen;generalize (schemedP s).2.1=r at e hlen
   have hhost:∀{t:Bs},hostedU {u with scheme:=sch} t=.ok v->t.length<=r.length->wt v<=bw b+3*s.length+120/\(v.query=u.query\/∃x,b=some x/\v.scheme=x.scheme/\v.query=x.query):=by
    intro t et ht;have h1:=hostedU_len et hu.port hu.user hu.pass hu.path;have h1:wt v<=sch.length+3*t.length+111:=h1;exact⟨by omega,Or.inl (hostedU_q et hu.port hu.user hu.pass).2⟩
   have hdr:∀n,(r.drop n).length<=r.length:=fun n=>by rw[List.length_drop];omega
   split at e
   ·rename_i hf;have h1:=filesU_len (u:={u with scheme:=sch}) e (hfr sch);have h1:wt v<=sch.length+bw b+3*r.length+111:=h1;obtain⟨h2,h3⟩:=filesU_q (u:={u with scheme:=sch}) e;refine⟨by omega,?_⟩;rcases h3 with h3|⟨x,hx,hxf,h3⟩
    ·exact Or.inl h3
    ·exact Or.inr ⟨x,hx,h2.trans (hf.trans hxf.symm),h3⟩
   ·split at e
    ·cases b with
     | none=>exact hhost e (hdr _)
     | some x=>
       simp only at e;split at e
       ·rename_i hh;have h1:=relU_len (u:={u with scheme:=sch}) e hh.1.symm (hfr sch);obtain⟨h2,h3⟩:=relU_q (u:={u with scheme:=sch}) e (hfr sch);refine⟨?_,?_⟩
        ·show wt v<=wt x+3*s.length+120;omega
        ·rcases h3 with h3|h3
         ·exact Or.inl h3
         ·exact Or.inr ⟨x,rfl,h2.trans hh.1.symm,h3⟩
       ·exact hhost e (hdr _)
    ·split at e
     ·exact hhost e (hdr _)
     ·split at e
      ·injection e with e
       rw[<-e];have h1:=onP_len {u with scheme:=sch} (r.drop 1);have h1:pl (onP {u with scheme:=sch} (r.drop 1)).path<=pl u.path+3*(r.drop 1).length+1:=h1;have h2:=hdr 1;refine⟨?_,Or.inl rfl⟩;show sch.length+u.user.length+u.pass.length+u.host.length+pl _<=_;omega
      ·injection e with e
       rw[<-e];have h1:=enc_len3 [] r;refine⟨?_,Or.inl rfl⟩;show sch.length+u.user.length+u.pass.length+u.host.length+pl [encodeP [] r]<=_;rw[pl_one];omega
 | false=>
   rw[hok,if_neg (by decide)]at e;cases b with
   | none=>cases e
   | some x=>
     simp only at e;split at e
     ·cases e
     ·split at e
      ·injection e with e
       rw[<-e];obtain⟨h1,h2⟩:=pathU_q {({u with scheme:=x.scheme}:UrlL)with opq:=true} x [];refine⟨?_,?_⟩
       ·have hp:(pathU {({u with scheme:=x.scheme}:UrlL)with opq:=true} x []).path=x.path/\(pathU {({u with scheme:=x.scheme}:UrlL)with opq:=true} x []).user=u.user/\(pathU {({u with scheme:=x.scheme}:UrlL)with opq:=true} x []).pass=u.pass/\(pathU {({u with scheme:=x.scheme}:UrlL)with opq:=true} x []).host=u.host:=by
         unfold pathU;rw[if_neg (fun h=>h rfl)];split<;>exact⟨rfl,rfl,rfl,rfl⟩
        show wt _<=wt x+3*s.length+120;unfold wt;rw[h1,hp.1,hp.2.1,hp.2.2.1,hp.2.2.2];show x.scheme.length+_+_+_+_<=_;omega
       ·rcases h2 with h2|h2
        ·exact Or.inl h2
        ·exact Or.inr ⟨x,rfl,h1,h2⟩
      ·split at e
       ·rename_i hf;have h1:=filesU_len (u:={u with scheme:=x.scheme}) e (hfr x.scheme);obtain⟨h2,h3⟩:=filesU_q (u:={u with scheme:=x.scheme}) e;have h1:wt v<=x.scheme.length+wt x+3*s.length+111:=h1;have h4:x.scheme.length=4:=by rw[hf];rfl
        refine⟨?_,?_⟩
        ·show wt v<=wt x+3*s.length+120;omega
        ·rcases h3 with h3|⟨y,hy,_,h3⟩
         ·exact Or.inl h3
         ·cases hy;exact Or.inr ⟨x,rfl,h2,h3⟩
       ·have h1:=relU_len (u:={u with scheme:=x.scheme}) e rfl (hfr x.scheme);obtain⟨h2,h3⟩:=relU_q (u:={u with scheme:=x.scheme}) e (hfr x.scheme);refine⟨?_,?_⟩
        ·show wt v<=wt x+3*s.length+120;omega
        ·rcases h3 with h3|h3
         ·exact Or.inl h3
         ·exact Or.inr ⟨x,rfl,h2,h3⟩
theorem clean_len (s:Bs):(cleanP s).length<=s.length:=by
 rw[clean_eq,List.length_reverse];have h1:∀l:Bs,(l.dropWhile lowQ).length<=l.length:=fun l=>(List.dropWhile_sublist lowQ).length_le;refine Nat.le_trans (h1 _) ?_;rw[List.length_reverse];refine Nat.le_trans (h1 _) ?_;exact List.length_filter_le _ _
def wq (u:UrlL):Nat:=wt u+u.query.length+u.fragment.length
def bq:Option UrlL->Nat
 | some x=>wq x
 | none=>0
theorem readU_len {s:Bs} {b:Option UrlL} {u:UrlL} (e:readU s b=.ok u) (hb:∀x,b=some x->NU x):wq u<=bq b+3*s.length+120:=by
 unfold readU at e;simp only at e;obtain⟨v,hv,e⟩:=bind_ok e;injection e with e
 have hc:=clean_len s;have f:=cut_len 35 (cleanP s);have q:=cut_len 63 (Lib.cut (cleanP s) [35]).1;have f':=cut_facts 35 (cleanP s);have q':=cut_facts 63 (Lib.cut (cleanP s) [35]).1;have hl:= @clean_last s;generalize Lib.cut (cleanP s) [35]=F at hv f q f' q';generalize Lib.cut F.1 [63]=G at hv q q';obtain⟨f1,f2,f3,_⟩:=f';obtain⟨q1,q2,q3,_⟩:=q';obtain⟨h1,h2⟩:=mainU_all hv ⟨rfl,rfl,rfl,rfl,rfl,rfl,rfl⟩ hb
 have hfr:v.fragment=F.2.1:=(mainU_form hv ⟨rfl,rfl,rfl,rfl,rfl,rfl,rfl⟩ (fun h=>f1 (q3 _ h)) q1
  (fun h1 h2 h=>by
   have e1:=(q2 h1).1;have e2:=(f2 h2).1;rw[e1,e2]at h;have:=hl h;cases this)
  (fun h=>(q2 h).2) hb).2.2.2
 have hfl:=enc_len3 (setU 1) F.2.1;rw[<-e];show wt v+(encodeP (setU (if specP v.scheme then 3 else 2)) v.query).length+(encodeP (setU 1) v.fragment).length<=_;rw[hfr]
 have hbw:bw b<=bq b:=by
  cases b with
  | none=>exact Nat.le_refl _
  | some x=>show wt x<=wq x;unfold wq;omega
 rcases h2 with h2|⟨x,rfl,h3,h4⟩
 ·rw[h2];have hql:=enc_len3 (setU (if specP v.scheme then 3 else 2)) G.2.1;have hql:(encodeP (setU (if specP v.scheme then 3 else 2)) ({query:=G.2.1,hasQuery:=G.2.2,fragment:=F.2.1,hasFragment:=F.2.2}:UrlL).query).length<=3*G.2.1.length:=hql;omega
 ·rw[h4,h3,encode_id (hb x rfl).query];have h1:wt v<=wt x+3*G.1.length+120:=h1;show wt v+x.query.length+_<=wq x+3*s.length+120;unfold wq;omega
theorem textU_len {u:UrlL} (hp:PortN u.scheme u.port):(textU u).length<=wq u+20:=by
 have h1:(atU u).length<=u.host.length+6:=by
  unfold atU;rcases hp with h|⟨n,h,hn,_⟩
  ·rw[if_pos h];omega
  ·rw[if_neg (by omega),h,itoa_nat,List.length_append,List.length_append];have:=decDigits_len 4 n (by omega);show u.host.length+1+_<=_;omega
 have h2:(if u.opq=true then u.path.headD []else u.path.flatMap fun p=>47::p).length<=pl u.path:=by
  split
  ·cases u.path with
   | nil=>exact Nat.zero_le _
   | cons p r=>
     show p.length<=pl ([p]++r);rw[pl_app,pl_one];omega
  ·exact Nat.le_refl _
 have h3:(if u.hasHost=true then[47,47]++u.user++(if u.pass=[]then[]else[58]++u.pass)++(if u.user=[]/\u.pass=[]then[]else[64])++atU u else if u.opq=false/\1<u.path.length/\u.path.head? =some []then[47,46]else[]:Bs).length<=10+u.user.length+u.pass.length+u.host.length:=by
  split
  ·have e1:(if u.pass=[]then[]else[58]++u.pass:Bs).length<=u.pass.length+1:=by
    split
    ·exact Nat.zero_le _
    ·rw[List.length_append];show 1+_<=_;omega
   have e2:(if u.user=[]/\u.pass=[]then[]else[64]:Bs).length<=1:=by split<;>simp
   rw[List.length_append,List.length_append,List.length_append,List.length_append];show 2+_+_+_+_<=_;omega
  ·split
   ·show 2<=_;omega
   ·exact Nat.zero_le _
 have h4:(if u.hasQuery=true then 63::u.query else[]:Bs).length<=u.query.length+1:=by split<;>simp
 have h5:(if u.hasFragment=true then 35::u.fragment else[]:Bs).length<=u.fragment.length+1:=by split<;>simp
 unfold textU;rw[List.length_append,List.length_append,List.length_append,List.length_append,List.length_append];unfold wq wt;show u.scheme.length+1+_+_+_+_<=_;omega
def spQ (c:UInt8):Bool:=decide (c<=32)
def pSp (x:Nat):Bool:=decide (x<=32)
theorem pSp_byte (c:UInt8):pSp c.toNat=spQ c:=by
 unfold pSp spQ;congr 1
theorem pSp_hi {x:Nat} (h:128<=x):pSp x=false:=by unfold pSp;rw[decide_eq_false];omega
theorem spQ_hi {c:UInt8} (h:128<=c.toNat):spQ c=false:=by rw[<-pSp_byte];exact pSp_hi h
theorem idx_sp (s:ByteArray):∀f pos,s.size<=pos+f->Lib.idxFuncFrom pSp false s f pos=if(s.data.toList.drop pos).all spQ then -1 else((pos+((s.data.toList.drop pos).takeWhile spQ).length:Nat):Int)
 | 0,pos,h=>by
   rw[List.drop_eq_nil_of_le (by show s.size<=pos;omega)];rfl
 | f+1,pos,h=>by
   rw[Lib.idxFuncFrom];by_cases hps:pos<s.size
   ·rw[if_pos hps]
    have hd:s.data.toList.drop pos=s[pos]::s.data.toList.drop (pos+1):=by
     rw[List.drop_eq_getElem_cons (show pos<s.data.toList.length from hps)];rfl
    rw[hd,List.all_cons];rcases Nat.lt_or_ge (s[pos]'hps).toNat 128 with h1|h1
    ·rw[decode_ascii s pos hps h1,pSp_byte];cases hq:spQ s[pos]with
     | false=>simp[hq]
     | true=>
       simp only[Bool.true_and,Bool.true_eq_false,if_false];rw[idx_sp s f (pos+1) (by omega)];split
       ·rfl
       ·rw[List.takeWhile_cons,hq];simp;omega
    ·rw[pSp_hi (rune_hi s pos hps h1),spQ_hi h1]
     simp[spQ_hi h1]
   ·rw[if_neg hps,List.drop_eq_nil_of_le (by show s.size<=pos;omega)];rfl
theorem drop_takeWhile (q:UInt8->Bool) (l:Bs):l.drop (l.takeWhile q).length=l.dropWhile q:=by
 induction l with
 | nil=>rfl
 | cons c r ih=>
   rw[List.takeWhile_cons,List.dropWhile_cons];split
   ·simpa using ih
   ·rfl
theorem all_dropWhile {q:UInt8->Bool} {l:Bs} (h:l.all q=true):l.dropWhile q=[]:=by
 induction l with
 | nil=>rfl
 | cons c r ih=>
   rw[List.all_cons,Bool.and_eq_true]at h;rw[List.dropWhile_cons,if_pos h.1];exact ih h.2
theorem trimLeft_sp (s:ByteArray):(Lib.trimLeftF pSp s).data.toList=s.data.toList.dropWhile spQ:=by
 unfold Lib.trimLeftF Lib.idxFunc;rw[idx_sp s s.size 0 (by omega),List.drop_zero];by_cases h:s.data.toList.all spQ=true
 ·rw[if_pos h,if_pos rfl,all_dropWhile h]
 ·rw[if_neg h,if_neg (by omega)];rw[Lib.extract_data,Nat.zero_add];rw[show((((s.data.toList.takeWhile spQ).length:Nat):Int)).toNat=(s.data.toList.takeWhile spQ).length from rfl,drop_takeWhile,List.take_of_length_le];rw[<-drop_takeWhile,List.length_drop];show s.size-_<=_;exact Nat.le_refl _
theorem dec_more {n n' b0 b1 b2 b3 c1 c2 c3:Nat} (h0:128<=b0) (hw:(Lib.decodeN n b0 b1 b2 b3).2=n) (hn:n<=n') (h1:1<n->c1=b1) (h2:2<n->c2=b2) (h3:3<n->c3=b3) (he:n=1->n'=1\/c1 / 64≠2):(Lib.decodeN n' b0 c1 c2 c3).2=n:=by
 rcases Lib.decodeN_shape n b0 b1 b2 b3 with⟨h,_⟩|⟨ha,hb,hc,hd,h⟩|⟨ha,hb,hc,hd,he1,hf,h⟩|⟨ha,hb,hc,hd,he1,hf,hg,h⟩|h
 ·omega
 ·rw[h]at hw;obtain rfl:n=2:=hw.symm;rw[h1 (by omega)];unfold Lib.decodeN;rw[if_neg (by omega),if_pos ⟨ha,by omega,hc⟩,if_pos hd]
 ·rw[h]at hw;obtain rfl:n=3:=hw.symm;rw[h1 (by omega),h2 (by omega)];unfold Lib.decodeN;rw[if_neg (by omega),if_neg (by omega),if_pos ⟨ha,⟨by omega,hc⟩,⟨by omega,hd⟩⟩,if_pos ⟨he1,by omega⟩]
 ·rw[h]at hw;obtain rfl:n=4:=hw.symm;rw[h1 (by omega),h2 (by omega),h3 (by omega)];unfold Lib.decodeN;rw[if_neg (by omega),if_neg (by omega),if_neg (by omega),if_pos ⟨ha,⟨by omega,hc⟩,⟨by omega,hd⟩,⟨by omega,he1⟩⟩,if_pos ⟨hf,by omega⟩]
 ·rw[h]at hw;obtain rfl:n=1:=hw.symm;have:=he rfl;unfold Lib.decodeN;rw[if_neg (by omega),if_neg (by omega),if_neg (by omega),if_neg (by omega)]
theorem dec_hi {n b0 b1 b2 b3:Nat} (h0:128<=b0):128<=(Lib.decodeN n b0 b1 b2 b3).1:=by
 rcases Lib.decodeN_shape n b0 b1 b2 b3 with⟨h,_⟩|⟨ha,hb,hc,hd,h⟩|⟨ha,hb,hc,hd,he1,hf,h⟩|⟨ha,hb,hc,hd,he1,hf,hg,h⟩|h
 ·omega
 ·rw[h];exact hd
 ·rw[h];show 128<=_;omega
 ·rw[h];show 128<=_;omega
 ·rw[h];show 128<=65533;omega
theorem get_nat' (s:ByteArray) (j:Nat) (h:j<s.size):s.get! j=s[j]'h:=by
 show s.data[j]! =_;rw[getElem!_pos s.data j h];rfl
theorem last_dec (s:ByteArray) (i:Nat) (hi0:0<i) (hi:i<=s.size) (hhi:128<=(s[i-1]'(by omega)).toNat) (hend:∀h:i<s.size,(s[i]'h).toNat<=32):
  128<=(Lib.decodeLastL (s.data.toList.take i)).1/\(Lib.decodeLastL (s.data.toList.take i)).2<=i/\(Utf8.decode s (i-(Lib.decodeLastL (s.data.toList.take i)).2)).2=(Lib.decodeLastL (s.data.toList.take i)).2:=by
 obtain⟨t,ht⟩:∃t:ByteArray,t=s.extract 0 i:=⟨_,rfl⟩;have htd:t.data.toList=s.data.toList.take i:=by rw[ht,Lib.extract_data];rfl
 have htz:t.size=i:=by
  show t.data.toList.length=i;rw[htd,List.length_take];show min i s.size=i;omega
 have hg:∀j,j<i->t.get! j=s.get! j:=fun j hj=>by rw[ht,Go.Proofs.get!_extract' s 0 i j (by omega) hi,Nat.zero_add]
 have hlast:(s.get! (i-1)).toNat=(s[i-1]'(by omega)).toNat:=by rw[get_nat' s (i-1) (by omega)]
 have hone:(Utf8.decode s (i-1)).2=1:=by
  rw[Lib.decode_at,show i-1+1=i by omega];refine dec_more (n:=1) (n':=s.size-(i-1)) (b1:=0) (b2:=0) (b3:=0) (by omega) ?_ (by omega) (by omega) (by omega) (by omega) (fun _=>?_)
  ·rcases Lib.decodeN_shape 1 (s.get! (i-1)).toNat 0 0 0 with⟨h,_⟩|⟨_,h,_⟩|⟨_,h,_⟩|⟨_,h,_⟩|h
   ·omega
   ·omega
   ·omega
   ·omega
   ·rw[h]
  ·by_cases h:i<s.size
   ·right;have:=hend h;rw[get_nat' s i h];omega
   ·left;omega
 rw[<-htd,Lib.decodeLastL_eq t (by omega) (by rw[htz,hg (i-1) (by omega),hlast];exact hhi)]
 have hls:=Lib.lastStart_lt t.data.toList (fun h=>by
  have h0:t.data.toList.length=0:=by rw[h];rfl
  have h1:t.data.toList.length=i:=htz;omega)
 have hls':Lib.lastStart t.data.toList<i:=by rw[<-htz];exact hls
 unfold Lib.lastOf;obtain⟨k,hk⟩:∃k,k=Lib.lastStart t.data.toList:=⟨_,rfl⟩;rw[<-hk]at hls'⊢
 have hgo:Lib.decodeGo (t.extract k t.size)=Utf8.decode t k:=by
  unfold Lib.decodeGo;rw[if_neg (by rw[ByteArray.size_extract];omega),Lib.tail_decode];rfl
 rw[hgo,htz];by_cases he:k+(Utf8.decode t k).2=i
 ·rw[if_pos he]
  have hd:Utf8.decode t k=Lib.decodeN (i-k) (s.get! k).toNat (t.get! (k+1)).toNat (t.get! (k+2)).toNat (t.get! (k+3)).toNat:=by
   rw[Lib.decode_at,htz,hg k hls']
  have hb0:128<=(s.get! k).toNat:=by
   rcases Nat.lt_or_ge (s.get! k).toNat 128 with h|h
   ·exfalso
    have h1:(Utf8.decode t k).2=1:=by
     rw[hd];unfold Lib.decodeN;rw[if_pos h]
    have:k=i-1:=by omega
    rw[this]at h;omega
   ·exact h
  refine⟨by rw[hd];exact dec_hi hb0,by omega,?_⟩;rw[show i-(Utf8.decode t k).2=k by omega,Lib.decode_at s k];have hw:(Lib.decodeN (i-k) (s.get! k).toNat (t.get! (k+1)).toNat (t.get! (k+2)).toNat (t.get! (k+3)).toNat).2=i-k:=by rw[<-hd];omega
  rw[dec_more hb0 hw (by omega) (fun h=>by rw[hg (k+1) (by omega)]) (fun h=>by rw[hg (k+2) (by omega)]) (fun h=>by rw[hg (k+3) (by omega)]) (fun h=>by
   by_cases h2:i<s.size
   ·right;have:=hend h2;rw[show k+1=i by omega,get_nat' s i h2];omega
   ·left;omega)]
  omega
 ·rw[if_neg he];exact⟨by show 128<=Utf8.runeError;decide,by show 1<=i;omega,by show(Utf8.decode s (i-1)).2=1;exact hone⟩
def lenR (l:Bs) (i:Nat):Nat:=((l.take i).reverse.dropWhile spQ).length
theorem lenR_succ {l:Bs} {i:Nat} {b:UInt8} (h:l[i]? =some b):lenR l (i+1)=if spQ b then lenR l i else i+1:=by
 obtain⟨hi,he⟩:=List.getElem?_eq_some_iff.1 h;unfold lenR;rw[List.take_succ_eq_append_getElem hi,he,List.reverse_append,List.reverse_singleton,List.singleton_append,List.dropWhile_cons];split
 ·rfl
 ·simp;omega
theorem right_sp (s:ByteArray):∀f i,i<=f->i<=s.size->(∀j,i<=j->∀h:j<s.size,(s[j]'h).toNat<=32)->
  (if 0<=Lib.lastIdxFuncFrom pSp false s f i then(Lib.lastIdxFuncFrom pSp false s f i).toNat+(Utf8.decode s (Lib.lastIdxFuncFrom pSp false s f i).toNat).2 else 0)=lenR s.data.toList i
 | 0,i,hf,hi,_=>by
   obtain rfl:i=0:=by omega
   rfl
 | f+1,i,hf,hi,ht=>by
   cases i with
   | zero=>rw[Lib.lastIdxFuncFrom];rfl
   | succ m=>
     have hm:m<s.size:=by omega
     have hstep:Lib.lastIdxFuncFrom pSp false s (f+1) (m+1)=if pSp (Lib.decodeLastL (s.data.toList.take (m+1))).1=false then(((m+1)-(Lib.decodeLastL (s.data.toList.take (m+1))).2:Nat):Int)else Lib.lastIdxFuncFrom pSp false s f ((m+1)-(Lib.decodeLastL (s.data.toList.take (m+1))).2):=by
      rw[Lib.lastIdxFuncFrom,if_pos (Nat.succ_pos m)]
     rw[hstep]
     have hcg:s.data.toList[m]? =some (s[m]'hm):=by
      rw[List.getElem?_eq_getElem (show m<s.data.toList.length from hm)];rfl
     rw[lenR_succ hcg];rcases Nat.lt_or_ge (s[m]'hm).toNat 128 with h1|h1
     ·have hd:Lib.decodeLastL (s.data.toList.take (m+1))=((s[m]'hm).toNat,1):=by
       obtain⟨hml,hme⟩:=List.getElem?_eq_some_iff.1 hcg;rw[List.take_succ_eq_append_getElem hml,hme];exact Lib.decodeLastL_ascii _ _ h1
      rw[hd,pSp_byte];cases hq:spQ (s[m]'hm)with
      | false=>
        simp only[if_true,Bool.false_eq_true,if_false];rw[show m+1-1=m by omega,if_pos (by omega),show((m:Int)).toNat=m from rfl,decode_ascii s m hm h1]
      | true=>
        simp only[Bool.true_eq_false,if_false,if_true];rw[show m+1-1=m by omega];refine right_sp s f m (by omega) (by omega) fun j hj hjl=>?_;rcases Nat.eq_or_lt_of_le hj with e|e
        ·subst e;have:spQ (s[m]'hm)=true:=hq;unfold spQ at this;have h2:=of_decide_eq_true this;exact h2
        ·exact ht j e hjl
     ·obtain⟨hd1,hd2,hd3⟩:=last_dec s (m+1) (by omega) hi (by simpa using h1) (fun h=>ht (m+1) (Nat.le_refl _) h);rw[pSp_hi hd1,spQ_hi h1];simp only[if_true,Bool.false_eq_true,if_false];rw[if_pos (by omega),Int.toNat_natCast,hd3];omega
theorem last_lt (s:ByteArray):∀f i,i<=s.size->Lib.lastIdxFuncFrom pSp false s f i<0\/Lib.lastIdxFuncFrom pSp false s f i<s.size
 | 0,_,_=>.inl (by rw[Lib.lastIdxFuncFrom];omega)
 | f+1,i,hi=>by
   rw[Lib.lastIdxFuncFrom];by_cases h:0<i
   ·rw[if_pos h];have hw:=(Lib.decodeLastL_width (s.data.toList.take i) (by rw[List.length_take];show 0<min i s.size;omega)).1;split
    ·right;omega
    ·exact last_lt s f _ (by omega)
   ·rw[if_neg h];left;omega
theorem trimRight_sp (s:ByteArray):(Lib.trimRightF pSp s).data.toList=(s.data.toList.reverse.dropWhile spQ).reverse:=by
 have h:=right_sp s s.size s.size (Nat.le_refl _) (Nat.le_refl _) (fun j hj hjl=>by omega)
 have hend:Lib.rightEndF pSp s=lenR s.data.toList s.size:=by
  rw[<-h];unfold Lib.rightEndF Lib.lastIdxFunc;split
  ·rename_i h0;have hlt:=last_lt s s.size s.size (Nat.le_refl _);congr 1;unfold Lib.decodeGoB;by_cases hz:(s.extract (Lib.lastIdxFuncFrom pSp false s s.size s.size).toNat s.size).size=0
   ·exfalso
    rw[ByteArray.size_extract]at hz;omega
   ·rw[if_neg hz,Lib.tail_decode];rfl
  ·rfl
 unfold Lib.trimRightF;rw[hend,Lib.extract_data];show(s.data.toList.drop 0).take (lenR s.data.toList s.size-0)=_;unfold lenR;rw[show s.data.toList.take s.size=s.data.toList from List.take_of_length_le (Nat.le_refl _),List.drop_zero,Nat.sub_zero]
 have hp:(s.data.toList.reverse.dropWhile spQ).reverse<+:s.data.toList:=by
  have:=(List.dropWhile_suffix spQ (l:=s.data.toList.reverse)).reverse
  rwa [List.reverse_reverse]at this
 have:=List.prefix_iff_eq_take.1 hp;rw[List.length_reverse]at this;exact this.symm
theorem trim_sp (s:ByteArray):(Lib.trimF pSp s).data.toList=((s.data.toList.dropWhile spQ).reverse.dropWhile spQ).reverse:=by
 unfold Lib.trimF;rw[trimRight_sp,trimLeft_sp]
end Lz
namespace Go.Proofs.YtfepgodjaeddgaaGreatDoor
open Go.RowKit
theorem bsZero:Tryz.zeroCells230=Array.replicate 257 (.slice none 0 0):=by kernel_rfl
noncomputable def bsZ (v:Value):Array Value:=Tryz.zeroCells230.setIfInBounds 256 v
theorem bsZ_size (v:Value):(bsZ v).size=257:=by unfold bsZ;rw[bsZero];simp
theorem bsZ_lo (v:Value) (k:Nat) (hk:k<256):(bsZ v)[k]? =some (.slice none 0 0):=by
 unfold bsZ;rw[bsZero,Array.getElem?_setIfInBounds_ne (by omega),Array.getElem?_replicate,if_pos (by omega)]
theorem bsZ_hi (v:Value):(bsZ v)[256]? =some v:=by
 unfold bsZ;rw[bsZero,Array.getElem?_setIfInBounds_self_of_lt (by simp)]
theorem bsZ_all (a:Option Addr) (n c:Nat):(bsZ (.slice a n c)).all (·.oneCell')=true:=by
 rw[Array.all_eq_true'];intro x hx;obtain⟨k,hk⟩:=Array.mem_iff_getElem?.1 hx;have hkl:k<257:=by have:=(Array.getElem?_eq_some_iff.1 hk).1;rw[bsZ_size]at this;exact this
 rcases Nat.lt_or_ge k 256 with h|h
 ·rw[bsZ_lo _ _ h]at hk;rw[<-Option.some.inj hk];rfl
 ·obtain rfl:k=256:=by omega
  rw[bsZ_hi]at hk;rw[<-Option.some.inj hk];rfl
theorem bsSize:(Tryz.prog.info? 230).map (·.size)=some 257:=by kernel_rfl
def rsB:List ByteArray:=[⟨#[9]⟩,⟨#[]⟩,⟨#[10]⟩,⟨#[]⟩,⟨#[13]⟩,⟨#[]⟩]
def RNew (B:Nat) (w:World) (e:Ending) (w':World):Prop:=∃b G c,e=.returned (.pointer (some ⟨b,0,none⟩))/\B<=b/\RepRow w' b 0 0 0 .nilIface (.slice (some ⟨G,0,none⟩) 6 c)/\w'.ownsRow B 9 1 (.slice (some ⟨G,0,none⟩) 6 c) 6 (rsB.map Value.string)/\Below w.heap.size w w'
theorem NewR_any (B:Nat) (p:Addr) (c:Nat) (w:World) (hB:B<=w.heap.size) (hc:∀(j:Nat) (u:Value),(rsB.map Value.string)[j]? =some u->w.cell? (p.add j)=some u):
  Calls Tryz.prog 93 #[.slice (some p) 6 c] w (RNew B w):=by
 obtain⟨i0,hi,hz0,hz1,hz2⟩:=info_parts infoTxt;have Hc:=Ih hc;clear hc;go_enter Tryz.func93,Tryz.ntmps93
 go_wp2_with (at_builtin;refine wpList_append_own _ rfl (.const (.slice none 0 0)) (.tmp 8) 22 rfl B 9 i0 (.string ⟨#[]⟩) 1 16 Tryz.underlying22 hi hz0 hz1 hz2 rfl (by decide) _ 0 [] rfl (World.ownsRow_nil _ B _ _) p 6 c (rsB.map Value.string) rfl rfl Hc.out (by decide) (by unfold maxLen;omega) (by omega) (by omega) ?_)
 intro v' w' hown hg hnil;have hb:Below w.heap.size w w':=(Below.refl _ w).grown hg (Nat.le_refl _) (fun k hk=>by simp[Value.ownBlock]at hk);have hP:PathOwn w' B v' rsB:=.inl hown;obtain⟨a',c',hv',_,hcells⟩:=hP.form;have hv2:v'=.slice a' 6 c':=hv';subst hv2;obtain⟨G,off,rfl,_,_⟩:=hcells 0 ⟨#[9]⟩ rfl
 have hoff:off=0:=by
  rcases hown.2 with⟨h,_⟩|⟨g,cap,cur,h,_⟩
  ·cases h
  ·injection h with h _ _;injection h with h;injection h with h1 h2 _
 subst hoff;have Hown:Hid (w'.ownsRow B 9 1 (.slice (some ⟨G,0,none⟩) 6 c') 6 (rsB.map Value.string)):=Ih hown;have hwz:=hb.size;clear hown hg hP hcells hnil hv'
 go_wp2_with fail
 go_ret;refine⟨_,G,c',rfl,by omega,?_,Hown.out.alloc _,below_call hb ((Below.refl _ _).alloc (Nat.le_refl _) _)⟩;show(w'.heap.push _)[w'.heap.size]? =_
 simp
theorem conv_one (w:World) (o:UInt8):(convert 35 9 (.slice (some ⟨w.heap.size,0,none⟩) 1 1)).run Tryz.prog (w.alloc (.cells #[.int .u8 (o.toNat:Int)] 5))=.ok (.string ⟨#[o]⟩) (w.alloc (.cells #[.int .u8 (o.toNat:Int)] 5)):=by
 refine run_convert_bytes_back (P:=Tryz.prog) _ 35 9 5 ⟨w.heap.size,0,none⟩ 1 [o] Tryz.underlying35 Tryz.underlying5 Tryz.underlying9 ?_;intro j hj;have hj0:j=0:=by simpa using hj
 subst hj0;exact cell_one w (.int .u8 (o.toNat:Int)) 5 0 _ rfl
theorem idx13 (W:World):(Instr.index 9 (.string ⟨#[13]⟩) (.int .i64 0)).run Tryz.prog W=.ok (.int .u8 13) W:=by kernel_rfl
theorem idx10 (W:World):(Instr.index 9 (.string ⟨#[10]⟩) (.int .i64 0)).run Tryz.prog W=.ok (.int .u8 10) W:=by kernel_rfl
theorem idx9 (W:World):(Instr.index 9 (.string ⟨#[9]⟩) (.int .i64 0)).run Tryz.prog W=.ok (.int .u8 9) W:=by kernel_rfl
theorem bytes_none (w:World):∃(cap:Nat) (w':World),(convert 9 35 (.string ⟨#[]⟩)).run Tryz.prog w=.ok (.slice (some ⟨w.heap.size,0,none⟩) 0 cap) w'/\Below w.heap.size w w':=
 ⟨_,_,run_bytes_of_string (P:=Tryz.prog) w 9 35 5 ⟨#[]⟩ Tryz.underlying9 Tryz.underlying35 Tryz.underlying5,(Below.refl _ w).drew.alloc (Nat.le_refl _) _⟩
def doneQ (m k:Nat):Prop:=(k=13/\m<=2)\/(k=10/\m<=1)\/(k=9/\m=0)
def toB:List ByteArray:=[⟨#[13]⟩,⟨#[10]⟩,⟨#[9]⟩]
structure BsAt (B g m:Nat) (wr:World) (cs:Array Value) (T:Nat):Prop where
 row:wr.heap[g]? =some (.cells cs 230 (0,0))
 size:cs.size=257
 hit:∀k,k<256->doneQ m k->∃A c,cs[k]? =some (.slice (some A) 0 c)
 miss:∀k,k<256->¬doneQ m k->cs[k]? =some (.slice none 0 0)
 last:cs[256]? =some (.slice (some ⟨T,0,none⟩) (3-m) 3)
 own:wr.ownsRow B 9 1 (.slice (some ⟨T,0,none⟩) (3-m) 3) (3-m) ((toB.take (3-m)).map Value.string)
def BsLoop (B g:Nat) (w:World) (i:Value) (wr:World):Prop:=∃m:Nat,m<=3/\i=.int .i64 (2*(m:Int)-2)/\Below B w wr/\∃cs T,BsAt B g m wr cs T
def RBuild (w:World) (e:Ending) (w':World):Prop:=∃g,e=.returned (.iface 231 (.pointer (some ⟨g,0,none⟩)))/\Below w.heap.size w w'/\BsRep w' g
theorem build_any (B b:Nat) (e:Int) (G c:Nat) (w:World) (hr:RepRow w b 0 1 e .nilIface (.slice (some ⟨G,0,none⟩) 6 c)) (hown:w.ownsRow B 9 1 (.slice (some ⟨G,0,none⟩) 6 c) 6 (rsB.map Value.string)):
  Calls Tryz.prog 193 #[.pointer (some ⟨b,0,none⟩)] w (RBuild w):=by
 obtain⟨i0,hi,hz0,hz1,hz2⟩:=info_parts infoTxt;have r4:=rowAt hr 4 (.slice (some ⟨G,0,none⟩) 6 c) rfl
 have hGc:∀k x,rsB[k]? =some x->w.cell? ⟨G,k,none⟩=some (.string x):=fun k x hk=>by
  have:=hown.cells (g:=G) rfl k (.string x) (by rw[List.getElem?_map,hk];rfl);rw[addr_add]at this;exact this
 have o0:=hGc 0 ⟨#[9]⟩ rfl;have o1:=hGc 1 ⟨#[]⟩ rfl;have o2:=hGc 2 ⟨#[10]⟩ rfl;have o3:=hGc 3 ⟨#[]⟩ rfl;have o4:=hGc 4 ⟨#[13]⟩ rfl;have o5:=hGc 5 ⟨#[]⟩ rfl;have hGl:G<w.heap.size:=World.block_lt_of_cell? _ _ o0;have hYs:Tryz.zeroCells230.size=257:=by rw[bsZero];simp
 have HGc:=Ih hGc;have HYs:=Ih hYs;clear hown hr hGc hYs;go_enter Tryz.func193,Tryz.ntmps193
 go_wp2_with fail
 refine wp_loop_rounds 4 ?_;rw[rounds_succ]
 go_wp2_with fail
 rw[rounds_succ]
 go_wp2_with fail
 rw[rounds_succ]
 go_wp2_with fail
 rw[rounds_succ];clear o0 o1 o2 o3 o4 o5 r4
 go_upto_region 26 with fail
 go_wp2_with (refine wpList_make_own _ rfl (.const (.int .i64 0)) (.tmp 93) 22 rfl w.heap.size 9 i0 (.string ⟨#[]⟩) 1 Tryz.underlying22 hi hz0 hz1 .i64 .i64 3 3 rfl rfl rfl (by rw[hz2];omega) (by decide) (Nat.le_refl _) ?_)
 intro w1 hown1 hg1;have hb1:Below w.heap.size w w1:=(Below.refl _ w).grown hg1 (Nat.le_refl _) (fun k hk=>by cases hk);have Hown1:=Ih hown1;have hw1:=hb1.size;clear hown1 hg1
 go_wp2_with (refine wpList_store_row rfl 230 (.tmp 11) (.tmp 95) rfl w1.heap.size (bsZ (.slice (some ⟨w.heap.size,0,none⟩) 0 3)) rfl rfl 230 Tryz.zeroCells230 (by show(w1.heap.push _)[w1.heap.size]? =_;simp) (by rw[bsZ_size];exact bsSize) (by rw[HYs.out,bsZ_size]) (bsZ_all _ _ _) ?_)
 obtain⟨Y,hY⟩:∃Y,Y=Tryz.zeroCells230:=⟨_,rfl⟩;rw[<-hY];obtain⟨Z,hZ⟩:∃Z,Z=bsZ (.slice (some ⟨w.heap.size,0,none⟩) 0 3):=⟨_,rfl⟩;rw[<-hZ];have HZ:=Ih hZ;have hR1:((w1.alloc (.cells Y 230)).setRow w1.heap.size Z).heap[w1.heap.size]? =some (.cells Z 230 (0,0)):=setRow_heap _ _ Y _ _ _ (by show(w1.heap.push _)[w1.heap.size]? =_;simp);have hgr:(w1.alloc (.cells Y 230)).grownBy ((w1.alloc (.cells Y 230)).setRow w1.heap.size Z) (some w1.heap.size):=⟨rfl,rfl,rfl,by simp,fun k _ hk=>setRow_other _ _ _ _ (fun e=>hk (by rw[e]))⟩;have hb2:Below w.heap.size w ((w1.alloc (.cells Y 230)).setRow w1.heap.size Z):=(hb1.alloc hw1 _).grown hgr (by simp;omega) (fun k hk=>by injection hk with hk;omega);have hown2:=(Hown1.out.alloc (.cells Y 230)).kept hgr (.inr (by simp[Value.ownBlock];have:=Hown1.out.lt w.heap.size rfl;omega));generalize (w1.alloc (.cells Y 230)).setRow w1.heap.size Z=w2 at hR1 hb2 hown2⊢;have HB2:=Ih hb2;have HR1:=Ih hR1;have HO2:=Ih hown2;clear hgr hb1 hb2 hR1 hown2 Hown1 hZ hY
 go_wp2_with fail
 go_loopw [12] (fun i wr=>BsLoop w.heap.size w1.heap.size w i wr) (fun i _=>(intOf i+2).toNat)
 case atStart=>
  refine⟨3,by omega,rfl,HB2.out,Z,w.heap.size,HR1.out,by rw[HZ.out];exact bsZ_size _,fun k hk h=>?_,fun k hk _=>by rw[HZ.out];exact bsZ_lo _ k hk,by rw[HZ.out];exact bsZ_hi _,HO2.out⟩;unfold doneQ at h;omega
 case round=>
  obtain⟨m,hm,rfl,hbw,cs,T,hA⟩:=hrel;obtain⟨g0,hg0⟩:∃g0,g0=w1.heap.size:=⟨_,rfl⟩;rw[<-hg0]at hA;have hg0w:w.heap.size<=g0:=by rw[hg0];exact hw1
  obtain rfl|rfl|rfl|rfl:m=3\/m=2\/m=1\/m=0:=by omega
  ·rw[<-hg0];clear hg0;have oc:wr.cell? ⟨G,4,none⟩=some (.string ⟨#[13]⟩):=by rw[hbw.cell (p:=⟨G,4,none⟩) hGl];exact HGc.out 4 ⟨#[13]⟩ rfl
   have oe:wr.cell? ⟨G,5,none⟩=some (.string ⟨#[]⟩):=by rw[hbw.cell (p:=⟨G,5,none⟩) hGl];exact HGc.out 5 ⟨#[]⟩ rfl
   have cg:=rowAt hA.row 13 (.slice none 0 0) (hA.miss 13 (by decide) (by unfold doneQ;omega));have c256:=rowAt hA.row 256 (.slice (some ⟨T,0,none⟩) 0 3) hA.last;have hnil:=fun W:World=>Lib.run_eql_slice_nil (P:=Tryz.prog) W 35 5 none 0 0 0 0 Tryz.underlying35;have hidx:=fun W:World=>idx13 W;have hconv:(convert 35 9 (.slice (some ⟨wr.heap.size,0,none⟩) 1 1)).run Tryz.prog (wr.alloc (.cells #[.int .u8 13] 5))=.ok (.string ⟨#[13]⟩) (wr.alloc (.cells #[.int .u8 13] 5)):=conv_one wr 13;have hT:T<wr.heap.size:=(hA.own.lt T rfl).2
   have hTg:¬g0=T:=fun e=>by
    rcases hA.own.2 with⟨h,_⟩|⟨g1,cap,cur,h,_,hh,_⟩
    ·cases h
    ·injection h with h _ _;injection h with h;injection h with h1 _ _
     rw[<-h1,<-e,hA.row]at hh;injection hh with hh
     injection hh with _ h2 _
     exact absurd h2 (by decide)
   have hoa:=(hA.own.alloc (.cells #[.int .u8 13] 5)).alloc (.cells #[.string ⟨#[13]⟩] 9);have HA:=Ih hA;have Hoa:=Ih hoa;have hbsz:=hbw.size;clear hA hoa
   go_wp2_with (at_builtin;refine wpList_append_fits _ rfl (.tmp 119) (.tmp 123) 22 rfl w.heap.size 9 i0 1 Tryz.underlying22 hi hz1 T 0 3 _ rfl Hoa.out ⟨wr.heap.size+1,0,none⟩ 1 1 [.string ⟨#[13]⟩] rfl rfl (fun j u hj=>by have:=cell_one (wr.alloc (.cells #[.int .u8 13] 5)) (.string ⟨#[13]⟩) 9 j u hj;simpa using this) (by simp[Value.oneCell']) (by omega) ?_)
   intro w3 hown3 hg3;have hg0l:g0<wr.heap.size:=row_lt HA.out.row
   have hR3:w3.heap[g0]? =some (.cells cs 230 (0,0)):=by
    rw[hg3.block g0 (by simp;omega) (fun e=>hTg (by injection e)),Below.heap_alloc _ _ _ (by simp;omega),Below.heap_alloc _ _ _ hg0l];exact HA.out.row
   have hb3:Below w.heap.size w w3:=((hbw.alloc hbsz _).alloc (by simp;omega) _).grown hg3 (by simp;omega) (fun k hk=>by injection hk with hk;subst hk;exact(HA.out.own.lt _ rfl).1);have d256:=rowAt hR3 256 _ HA.out.last;have z256:=rowFz hR3 256;have hg0b:w.heap.size<=g0:=hg0w;have hb4:Below w.heap.size w (w3.setCell ⟨g0,256,none⟩ (.slice (some ⟨T,0,none⟩) 1 3)):=hb3.setCell (p:=⟨g0,256,none⟩) hg0b _;have hR4:(w3.setCell ⟨g0,256,none⟩ (.slice (some ⟨T,0,none⟩) 1 3)).heap[g0]? =some (.cells (cs.setIfInBounds 256 (.slice (some ⟨T,0,none⟩) 1 3)) 230 (0,0)):=rowSet hR3 256 _ rfl;have hown4:=hown3.kept (grown_setCell w3 ⟨g0,256,none⟩ (.slice (some ⟨T,0,none⟩) 1 3)) (.inr (by simp[Value.ownBlock];exact fun e=>hTg e.symm));have Hown4:=Ih hown4;have HR4:=Ih hR4;have HB4:=Ih hb4;clear hown3 hg3 hR3 hb3 hown4 hR4 hb4 hconv oc oe cg c256
   go_upto_region 34 with fail
   generalize w3.setCell ⟨g0,256,none⟩ (.slice (some ⟨T,0,none⟩) 1 3)=w4 at Hown4 HR4 HB4⊢;have hg4:g0<w4.heap.size:=row_lt HR4.out;obtain⟨cap,w5,kb,hb5⟩:=bytes_none w4;have hR5:w5.heap[g0]? =_:=(hb5.block g0 hg4).trans HR4.out;have hown5:=own_below Hown4.out hb5;have c5:=rowAt hR5 13 (.slice none 0 0) (by rw[Array.getElem?_setIfInBounds_ne (by omega)];exact HA.out.miss 13 (by decide) (by unfold doneQ;omega));have f5:=rowFz hR5 13;have hR6:(w5.setCell ⟨g0,13,none⟩ (.slice (some ⟨w4.heap.size,0,none⟩) 0 cap)).heap[g0]? =some (.cells ((cs.setIfInBounds 256 (.slice (some ⟨T,0,none⟩) 1 3)).setIfInBounds 13 (.slice (some ⟨w4.heap.size,0,none⟩) 0 cap)) 230 (0,0)):=rowSet hR5 13 _ rfl;have hb6:Below w.heap.size w (w5.setCell ⟨g0,13,none⟩ (.slice (some ⟨w4.heap.size,0,none⟩) 0 cap)):=(HB4.out.trans (hb5.mono HB4.out.size)).setCell (p:=⟨g0,13,none⟩) hg0b _;have hown6:=hown5.kept (grown_setCell w5 ⟨g0,13,none⟩ (.slice (some ⟨w4.heap.size,0,none⟩) 0 cap)) (.inr (by simp[Value.ownBlock];exact fun e=>hTg e.symm))
   have HF:Hid (BsLoop w.heap.size g0 w (.int .i64 2) (w5.setCell ⟨g0,13,none⟩ (.slice (some ⟨w4.heap.size,0,none⟩) 0 cap))):=by
    refine⟨2,by omega,rfl,hb6,_,T,hR6,by simp[HA.out.size],fun k hk h=>?_,fun k hk h=>?_,?_,hown6⟩
    ·by_cases h13:k=13
     ·exact⟨⟨w4.heap.size,0,none⟩,cap,by rw[h13,Array.getElem?_setIfInBounds_self_of_lt (by simp[HA.out.size])]⟩
     ·rw[Array.getElem?_setIfInBounds_ne (by omega),Array.getElem?_setIfInBounds_ne (by omega)];exact HA.out.hit k hk (by unfold doneQ at h⊢;omega)
    ·have h13:k≠13:=fun e=>h (by unfold doneQ;omega);rw[Array.getElem?_setIfInBounds_ne (by omega),Array.getElem?_setIfInBounds_ne (by omega)];exact HA.out.miss k hk (by unfold doneQ at h⊢;omega)
    ·rw[Array.getElem?_setIfInBounds_ne (by omega),Array.getElem?_setIfInBounds_self_of_lt (by simp[HA.out.size])]
   clear hR5 hown5 hR6 hb6 hown6
   go_wp2_with fail
   go_roundw
   case rel=>exact HF.out
   case measure=>simp[intOf]
  ·rw[<-hg0];clear hg0;have oc:wr.cell? ⟨G,2,none⟩=some (.string ⟨#[10]⟩):=by rw[hbw.cell (p:=⟨G,2,none⟩) hGl];exact HGc.out 2 ⟨#[10]⟩ rfl
   have oe:wr.cell? ⟨G,3,none⟩=some (.string ⟨#[]⟩):=by rw[hbw.cell (p:=⟨G,3,none⟩) hGl];exact HGc.out 3 ⟨#[]⟩ rfl
   have cg:=rowAt hA.row 10 (.slice none 0 0) (hA.miss 10 (by decide) (by unfold doneQ;omega));have c256:=rowAt hA.row 256 (.slice (some ⟨T,0,none⟩) 1 3) hA.last;have hnil:=fun W:World=>Lib.run_eql_slice_nil (P:=Tryz.prog) W 35 5 none 0 0 0 0 Tryz.underlying35;have hidx:=fun W:World=>idx10 W;have hconv:(convert 35 9 (.slice (some ⟨wr.heap.size,0,none⟩) 1 1)).run Tryz.prog (wr.alloc (.cells #[.int .u8 10] 5))=.ok (.string ⟨#[10]⟩) (wr.alloc (.cells #[.int .u8 10] 5)):=conv_one wr 10;have hT:T<wr.heap.size:=(hA.own.lt T rfl).2
   have hTg:¬g0=T:=fun e=>by
    rcases hA.own.2 with⟨h,_⟩|⟨g1,cap,cur,h,_,hh,_⟩
    ·cases h
    ·injection h with h _ _;injection h with h;injection h with h1 _ _
     rw[<-h1,<-e,hA.row]at hh;injection hh with hh
     injection hh with _ h2 _
     exact absurd h2 (by decide)
   have hoa:=(hA.own.alloc (.cells #[.int .u8 10] 5)).alloc (.cells #[.string ⟨#[10]⟩] 9);have HA:=Ih hA;have Hoa:=Ih hoa;have hbsz:=hbw.size;clear hA hoa
   go_wp2_with (at_builtin;refine wpList_append_fits _ rfl (.tmp 119) (.tmp 123) 22 rfl w.heap.size 9 i0 1 Tryz.underlying22 hi hz1 T 1 3 _ rfl Hoa.out ⟨wr.heap.size+1,0,none⟩ 1 1 [.string ⟨#[10]⟩] rfl rfl (fun j u hj=>by have:=cell_one (wr.alloc (.cells #[.int .u8 10] 5)) (.string ⟨#[10]⟩) 9 j u hj;simpa using this) (by simp[Value.oneCell']) (by omega) ?_)
   intro w3 hown3 hg3;have hg0l:g0<wr.heap.size:=row_lt HA.out.row
   have hR3:w3.heap[g0]? =some (.cells cs 230 (0,0)):=by
    rw[hg3.block g0 (by simp;omega) (fun e=>hTg (by injection e)),Below.heap_alloc _ _ _ (by simp;omega),Below.heap_alloc _ _ _ hg0l];exact HA.out.row
   have hb3:Below w.heap.size w w3:=((hbw.alloc hbsz _).alloc (by simp;omega) _).grown hg3 (by simp;omega) (fun k hk=>by injection hk with hk;subst hk;exact(HA.out.own.lt _ rfl).1);have d256:=rowAt hR3 256 _ HA.out.last;have z256:=rowFz hR3 256;have hg0b:w.heap.size<=g0:=hg0w;have hb4:Below w.heap.size w (w3.setCell ⟨g0,256,none⟩ (.slice (some ⟨T,0,none⟩) 2 3)):=hb3.setCell (p:=⟨g0,256,none⟩) hg0b _;have hR4:(w3.setCell ⟨g0,256,none⟩ (.slice (some ⟨T,0,none⟩) 2 3)).heap[g0]? =some (.cells (cs.setIfInBounds 256 (.slice (some ⟨T,0,none⟩) 2 3)) 230 (0,0)):=rowSet hR3 256 _ rfl;have hown4:=hown3.kept (grown_setCell w3 ⟨g0,256,none⟩ (.slice (some ⟨T,0,none⟩) 2 3)) (.inr (by simp[Value.ownBlock];exact fun e=>hTg e.symm));have Hown4:=Ih hown4;have HR4:=Ih hR4;have HB4:=Ih hb4;clear hown3 hg3 hR3 hb3 hown4 hR4 hb4 hconv oc oe cg c256
   go_upto_region 34 with fail
   generalize w3.setCell ⟨g0,256,none⟩ (.slice (some ⟨T,0,none⟩) 2 3)=w4 at Hown4 HR4 HB4⊢;have hg4:g0<w4.heap.size:=row_lt HR4.out;obtain⟨cap,w5,kb,hb5⟩:=bytes_none w4;have hR5:w5.heap[g0]? =_:=(hb5.block g0 hg4).trans HR4.out;have hown5:=own_below Hown4.out hb5;have c5:=rowAt hR5 10 (.slice none 0 0) (by rw[Array.getElem?_setIfInBounds_ne (by omega)];exact HA.out.miss 10 (by decide) (by unfold doneQ;omega));have f5:=rowFz hR5 10;have hR6:(w5.setCell ⟨g0,10,none⟩ (.slice (some ⟨w4.heap.size,0,none⟩) 0 cap)).heap[g0]? =some (.cells ((cs.setIfInBounds 256 (.slice (some ⟨T,0,none⟩) 2 3)).setIfInBounds 10 (.slice (some ⟨w4.heap.size,0,none⟩) 0 cap)) 230 (0,0)):=rowSet hR5 10 _ rfl;have hb6:Below w.heap.size w (w5.setCell ⟨g0,10,none⟩ (.slice (some ⟨w4.heap.size,0,none⟩) 0 cap)):=(HB4.out.trans (hb5.mono HB4.out.size)).setCell (p:=⟨g0,10,none⟩) hg0b _;have hown6:=hown5.kept (grown_setCell w5 ⟨g0,10,none⟩ (.slice (some ⟨w4.heap.size,0,none⟩) 0 cap)) (.inr (by simp[Value.ownBlock];exact fun e=>hTg e.symm))
   have HF:Hid (BsLoop w.heap.size g0 w (.int .i64 0) (w5.setCell ⟨g0,10,none⟩ (.slice (some ⟨w4.heap.size,0,none⟩) 0 cap))):=by
    refine⟨1,by omega,rfl,hb6,_,T,hR6,by simp[HA.out.size],fun k hk h=>?_,fun k hk h=>?_,?_,hown6⟩
    ·by_cases h13:k=10
     ·exact⟨⟨w4.heap.size,0,none⟩,cap,by rw[h13,Array.getElem?_setIfInBounds_self_of_lt (by simp[HA.out.size])]⟩
     ·rw[Array.getElem?_setIfInBounds_ne (by omega),Array.getElem?_setIfInBounds_ne (by omega)];exact HA.out.hit k hk (by unfold doneQ at h⊢;omega)
    ·have h13:k≠10:=fun e=>h (by unfold doneQ;omega);rw[Array.getElem?_setIfInBounds_ne (by omega),Array.getElem?_setIfInBounds_ne (by omega)];exact HA.out.miss k hk (by unfold doneQ at h⊢;omega)
    ·rw[Array.getElem?_setIfInBounds_ne (by omega),Array.getElem?_setIfInBounds_self_of_lt (by simp[HA.out.size])]
   clear hR5 hown5 hR6 hb6 hown6
   go_wp2_with fail
   go_roundw
   case rel=>exact HF.out
   case measure=>simp[intOf]
  ·rw[<-hg0];clear hg0;have oc:wr.cell? ⟨G,0,none⟩=some (.string ⟨#[9]⟩):=by rw[hbw.cell (p:=⟨G,0,none⟩) hGl];exact HGc.out 0 ⟨#[9]⟩ rfl
   have oe:wr.cell? ⟨G,1,none⟩=some (.string ⟨#[]⟩):=by rw[hbw.cell (p:=⟨G,1,none⟩) hGl];exact HGc.out 1 ⟨#[]⟩ rfl
   have cg:=rowAt hA.row 9 (.slice none 0 0) (hA.miss 9 (by decide) (by unfold doneQ;omega));have c256:=rowAt hA.row 256 (.slice (some ⟨T,0,none⟩) 2 3) hA.last;have hnil:=fun W:World=>Lib.run_eql_slice_nil (P:=Tryz.prog) W 35 5 none 0 0 0 0 Tryz.underlying35;have hidx:=fun W:World=>idx9 W;have hconv:(convert 35 9 (.slice (some ⟨wr.heap.size,0,none⟩) 1 1)).run Tryz.prog (wr.alloc (.cells #[.int .u8 9] 5))=.ok (.string ⟨#[9]⟩) (wr.alloc (.cells #[.int .u8 9] 5)):=conv_one wr 9;have hT:T<wr.heap.size:=(hA.own.lt T rfl).2
   have hTg:¬g0=T:=fun e=>by
    rcases hA.own.2 with⟨h,_⟩|⟨g1,cap,cur,h,_,hh,_⟩
    ·cases h
    ·injection h with h _ _;injection h with h;injection h with h1 _ _
     rw[<-h1,<-e,hA.row]at hh;injection hh with hh
     injection hh with _ h2 _
     exact absurd h2 (by decide)
   have hoa:=(hA.own.alloc (.cells #[.int .u8 9] 5)).alloc (.cells #[.string ⟨#[9]⟩] 9);have HA:=Ih hA;have Hoa:=Ih hoa;have hbsz:=hbw.size;clear hA hoa
   go_wp2_with (at_builtin;refine wpList_append_fits _ rfl (.tmp 119) (.tmp 123) 22 rfl w.heap.size 9 i0 1 Tryz.underlying22 hi hz1 T 2 3 _ rfl Hoa.out ⟨wr.heap.size+1,0,none⟩ 1 1 [.string ⟨#[9]⟩] rfl rfl (fun j u hj=>by have:=cell_one (wr.alloc (.cells #[.int .u8 9] 5)) (.string ⟨#[9]⟩) 9 j u hj;simpa using this) (by simp[Value.oneCell']) (by omega) ?_)
   intro w3 hown3 hg3;have hg0l:g0<wr.heap.size:=row_lt HA.out.row
   have hR3:w3.heap[g0]? =some (.cells cs 230 (0,0)):=by
    rw[hg3.block g0 (by simp;omega) (fun e=>hTg (by injection e)),Below.heap_alloc _ _ _ (by simp;omega),Below.heap_alloc _ _ _ hg0l];exact HA.out.row
   have hb3:Below w.heap.size w w3:=((hbw.alloc hbsz _).alloc (by simp;omega) _).grown hg3 (by simp;omega) (fun k hk=>by injection hk with hk;subst hk;exact(HA.out.own.lt _ rfl).1);have d256:=rowAt hR3 256 _ HA.out.last;have z256:=rowFz hR3 256;have hg0b:w.heap.size<=g0:=hg0w;have hb4:Below w.heap.size w (w3.setCell ⟨g0,256,none⟩ (.slice (some ⟨T,0,none⟩) 3 3)):=hb3.setCell (p:=⟨g0,256,none⟩) hg0b _;have hR4:(w3.setCell ⟨g0,256,none⟩ (.slice (some ⟨T,0,none⟩) 3 3)).heap[g0]? =some (.cells (cs.setIfInBounds 256 (.slice (some ⟨T,0,none⟩) 3 3)) 230 (0,0)):=rowSet hR3 256 _ rfl;have hown4:=hown3.kept (grown_setCell w3 ⟨g0,256,none⟩ (.slice (some ⟨T,0,none⟩) 3 3)) (.inr (by simp[Value.ownBlock];exact fun e=>hTg e.symm));have Hown4:=Ih hown4;have HR4:=Ih hR4;have HB4:=Ih hb4;clear hown3 hg3 hR3 hb3 hown4 hR4 hb4 hconv oc oe cg c256
   go_upto_region 34 with fail
   generalize w3.setCell ⟨g0,256,none⟩ (.slice (some ⟨T,0,none⟩) 3 3)=w4 at Hown4 HR4 HB4⊢;have hg4:g0<w4.heap.size:=row_lt HR4.out;obtain⟨cap,w5,kb,hb5⟩:=bytes_none w4;have hR5:w5.heap[g0]? =_:=(hb5.block g0 hg4).trans HR4.out;have hown5:=own_below Hown4.out hb5;have c5:=rowAt hR5 9 (.slice none 0 0) (by rw[Array.getElem?_setIfInBounds_ne (by omega)];exact HA.out.miss 9 (by decide) (by unfold doneQ;omega));have f5:=rowFz hR5 9;have hR6:(w5.setCell ⟨g0,9,none⟩ (.slice (some ⟨w4.heap.size,0,none⟩) 0 cap)).heap[g0]? =some (.cells ((cs.setIfInBounds 256 (.slice (some ⟨T,0,none⟩) 3 3)).setIfInBounds 9 (.slice (some ⟨w4.heap.size,0,none⟩) 0 cap)) 230 (0,0)):=rowSet hR5 9 _ rfl;have hb6:Below w.heap.size w (w5.setCell ⟨g0,9,none⟩ (.slice (some ⟨w4.heap.size,0,none⟩) 0 cap)):=(HB4.out.trans (hb5.mono HB4.out.size)).setCell (p:=⟨g0,9,none⟩) hg0b _;have hown6:=hown5.kept (grown_setCell w5 ⟨g0,9,none⟩ (.slice (some ⟨w4.heap.size,0,none⟩) 0 cap)) (.inr (by simp[Value.ownBlock];exact fun e=>hTg e.symm))
   have HF:Hid (BsLoop w.heap.size g0 w (.int .i64 (-2)) (w5.setCell ⟨g0,9,none⟩ (.slice (some ⟨w4.heap.size,0,none⟩) 0 cap))):=by
    refine⟨0,by omega,rfl,hb6,_,T,hR6,by simp[HA.out.size],fun k hk h=>?_,fun k hk h=>?_,?_,hown6⟩
    ·by_cases h13:k=9
     ·exact⟨⟨w4.heap.size,0,none⟩,cap,by rw[h13,Array.getElem?_setIfInBounds_self_of_lt (by simp[HA.out.size])]⟩
     ·rw[Array.getElem?_setIfInBounds_ne (by omega),Array.getElem?_setIfInBounds_ne (by omega)];exact HA.out.hit k hk (by unfold doneQ at h⊢;omega)
    ·have h13:k≠9:=fun e=>h (by unfold doneQ;omega);rw[Array.getElem?_setIfInBounds_ne (by omega),Array.getElem?_setIfInBounds_ne (by omega)];exact HA.out.miss k hk (by unfold doneQ at h⊢;omega)
    ·rw[Array.getElem?_setIfInBounds_ne (by omega),Array.getElem?_setIfInBounds_self_of_lt (by simp[HA.out.size])]
   clear hR5 hown5 hR6 hb6 hown6
   go_wp2_with fail
   go_roundw
   case rel=>exact HF.out
   case measure=>simp[intOf]
  ·rw[<-hg0];clear hg0
   have HF:Hid (RBuild w (.returned (.iface 231 (.pointer (some ⟨g0,0,none⟩)))) wr):=by
    refine⟨g0,rfl,hbw,⟨cs,hA.row,fun k hk=>?_,?_⟩⟩
    ·split
     ·exact hA.hit k hk (by unfold doneQ;omega)
     ·exact hA.miss k hk (by unfold doneQ;omega)
    ·rcases hA.own.2 with⟨h,_⟩|⟨g1,cap,cur,h,_,hh,_,_,_,htk⟩
     ·cases h
     ·injection h with h _ hcap
      injection h with h
      injection h with h1 _ _
      subst h1
      have hget:∀(k:Nat) (x:ByteArray),toB[k]? =some x->cur[k]? =some (Value.string x):=by
       intro k x hk;have h1:(toB.map Value.string)[k]? =some (Value.string x):=by rw[List.getElem?_map,hk];rfl
       have h2:cur.toList.take 3=toB.map Value.string:=htk;rw[<-h2,List.getElem?_take]at h1;split at h1
       ·simpa using h1
       ·cases h1
      exact⟨T,3,cur,hA.last,hh,hget 0 _ rfl,hget 1 _ rfl,hget 2 _ rfl⟩
   clear hA
   go_wp2_with fail
   go_ret;exact HF.out
theorem bo_any (B b:Nat) (e:Int) (G c:Nat) (w:World) (hBb:B<=b) (hr:RepRow w b 0 1 e .nilIface (.slice (some ⟨G,0,none⟩) 6 c)) (hown:w.ownsRow B 9 1 (.slice (some ⟨G,0,none⟩) 6 c) 6 (rsB.map Value.string)) (hB:B<=w.heap.size):
  Calls Tryz.prog 137 #[.pointer (some ⟨b,0,none⟩)] w fun e' w'=>e'=.returned (.tuple #[])/\RBuilt1 B b 0 1 e w w':=by
 have cB:=Ih (build_any B b e G c w hr hown);have HR:=Ih hr;have hbl:b<w.heap.size:=row_lt hr;clear hr hown;go_enter Tryz.func137,Tryz.ntmps137
 go_wp2_with fail
 refine cB.out.mono ?_;rintro e1 w1 ⟨g,rfl,hb1,hbs⟩;have hr1:RepRow w1 b 0 1 e .nilIface (.slice (some ⟨G,0,none⟩) 6 c):=(hb1.block b hbl).trans HR.out;have c3:=rowAt hr1 3 .nilIface rfl;have f3:=rowFz hr1 3;have hr2:=RepRow.set hr1 3 (.iface 231 (.pointer (some ⟨g,0,none⟩))) (d':=0) (s':=1) (rv':=.iface 231 (.pointer (some ⟨g,0,none⟩))) (ov':=.slice (some ⟨G,0,none⟩) 6 c) (by simp);have hbs2:=BsRep.set hbs hr1 3 (.iface 231 (.pointer (some ⟨g,0,none⟩)));have c4:=rowAt hr2 4 (.slice (some ⟨G,0,none⟩) 6 c) rfl;have f4:=rowFz hr2 4;have hr3:=RepRow.set hr2 4 (.slice none 0 0) (d':=0) (s':=1) (rv':=.iface 231 (.pointer (some ⟨g,0,none⟩))) (ov':=.slice none 0 0) (by simp);have hbs3:=BsRep.set hbs2 hr2 4 (.slice none 0 0);have hbb:=((hb1.mono hB).setCell (p:=⟨b,3,none⟩) hBb (.iface 231 (.pointer (some ⟨g,0,none⟩)))).setCell (p:=⟨b,4,none⟩) hBb (.slice none 0 0);have HF:Hid (RBuilt1 B b 0 1 e w ((w1.setCell ⟨b,3,none⟩ (.iface 231 (.pointer (some ⟨g,0,none⟩)))).setCell ⟨b,4,none⟩ (.slice none 0 0))):=⟨hbb,g,hr3,hbs3⟩;clear hr1 hr2 hr3 hbs hbs2 hbs3 hbb
 go_wp2_with fail
 go_end0
 exact⟨rfl,HF.out⟩
end Go.Proofs.YtfepgodjaeddgaaGreatDoor
namespace Lz
open Go
def blkQ (c:UInt8):Bool:=c==9||c==10||c==13
def keepB (l:Bs):Bs:=l.filter fun c=> !(c==9||c==10||c==13)
def nblk (l:Bs):Nat:=l.countP blkQ
theorem keepB_len (l:Bs):(keepB l).length+nblk l=l.length:=by
 induction l with
 | nil=>rfl
 | cons c r ih=>
   unfold keepB nblk at *;rw[List.filter_cons,List.countP_cons];by_cases h:(c==9||c==10||c==13)=true
   ·have hb:blkQ c=true:=h;simp only[h,hb,Bool.not_true,Bool.false_eq_true,if_false,if_true,List.length_cons];omega
   ·have h':(c==9||c==10||c==13)=false:=by simpa using h
    have hb:blkQ c=false:=h';simp only[h',hb,Bool.not_false,if_true,Bool.false_eq_true,if_false,List.length_cons];omega
theorem nblk_three (l:Bs):l.count 13+l.count 10+l.count 9=nblk l:=by
 induction l with
 | nil=>rfl
 | cons c r ih=>
   unfold nblk at *;rw[List.countP_cons,List.count_cons,List.count_cons,List.count_cons,<-ih];by_cases h9:c=9
   ·subst h9;simp[blkQ];omega
   ·by_cases h10:c=10
    ·subst h10;simp[blkQ];omega
    ·by_cases h13:c=13
     ·subst h13;simp[blkQ];omega
     ·have hb:blkQ c=false:=by simp[blkQ,h9,h10,h13]
      simp[hb,h9,h10,h13]
theorem nblk_take_succ {l:Bs} {i:Nat} {c:UInt8} (h:l[i]? =some c):nblk (l.take (i+1))=nblk (l.take i)+(if blkQ c then 1 else 0):=by
 obtain⟨hi,he⟩:=List.getElem?_eq_some_iff.1 h;rw[List.take_succ_eq_append_getElem hi,he];unfold nblk;rw[List.countP_append];simp[List.countP_cons]
theorem keepB_take_succ {l:Bs} {i:Nat} {c:UInt8} (h:l[i]? =some c):keepB (l.take (i+1))=keepB (l.take i)++(if blkQ c then[]else[c]):=by
 obtain⟨hi,he⟩:=List.getElem?_eq_some_iff.1 h;rw[List.take_succ_eq_append_getElem hi,he];unfold keepB;rw[List.filter_append];congr 1;by_cases h9:(c==9||c==10||c==13)=true
 ·have hb:blkQ c=true:=h9;simp only[hb,if_true,List.filter_cons,h9,Bool.not_true,Bool.false_eq_true,if_false,List.filter_nil]
 ·have h9':(c==9||c==10||c==13)=false:=by simpa using h9
  have hb:blkQ c=false:=h9';simp only[hb,Bool.false_eq_true,if_false,List.filter_cons,h9',Bool.not_false,if_true,List.filter_nil]
theorem nblk_take_le (l:Bs) (i:Nat):nblk (l.take i)<=nblk l:=by
 unfold nblk;exact List.Sublist.countP_le (List.take_sublist i l)
theorem nblk_zero {l:Bs} (h:nblk l=0):keepB l=l:=by
 unfold keepB nblk at *;rw[List.filter_eq_self];intro c hc;have:=List.countP_eq_zero.1 h c hc;simpa [blkQ]using this
end Lz
namespace Go.Proofs.YtfepgodjaeddgaaGreatDoor
open Go.RowKit
theorem bs_cell {w:World} {g:Nat} (h:BsRep w g) (c:UInt8):if Lz.blkQ c then ∃A cap,w.cell? ⟨g,c.toNat,none⟩=some (.slice (some A) 0 cap)else w.cell? ⟨g,c.toNat,none⟩=some (.slice none 0 0):=by
 obtain⟨cs,hr,hc,_⟩:=h.row;have h1:=hc c.toNat c.toNat_lt;by_cases hq:c=9\/c=10\/c=13
 ·have hb:Lz.blkQ c=true:=by rcases hq with h|h|h<;>(subst h;rfl)
  have hq2:c.toNat=9\/c.toNat=10\/c.toNat=13:=by rcases hq with h|h|h<;>(subst h;decide)
  rw[if_pos hq2]at h1;rw[if_pos hb];obtain⟨A,cap,h2⟩:=h1;exact⟨A,cap,rowAt hr _ _ h2⟩
 ·have hb:¬Lz.blkQ c=true:=by
   intro h;apply hq;unfold Lz.blkQ at h;simp only[Bool.or_eq_true,beq_iff_eq]at h;rcases h with(h|h)|h
   ·exact .inl h
   ·exact .inr (.inl h)
   ·exact .inr (.inr h)
  have hq2:¬(c.toNat=9\/c.toNat=10\/c.toNat=13):=fun h=>hq (by
   rcases h with h|h|h
   ·exact .inl (UInt8.toNat_inj.1 h)
   ·exact .inr (.inl (UInt8.toNat_inj.1 h))
   ·exact .inr (.inr (UInt8.toNat_inj.1 h)))
  rw[if_neg hq2]at h1;rw[if_neg hb];exact rowAt hr _ _ h1
def cnt3 (l:List UInt8):Nat->Nat
 | 0=>0
 | 1=>l.count 13
 | 2=>l.count 13+l.count 10
 | _=>l.count 13+l.count 10+l.count 9
def SizeRel (s:ByteArray) (w:World) (s5 s6:Value) (wx:World):Prop:=∃(kn:Nat) (y:Bool),s5=.int .i64 (kn:Int)/\s6=.bool y/\Hid (kn=(Lz.keepB s.data.toList).length)/\Hid (y=decide (Lz.nblk s.data.toList≠0))/\Below w.heap.size w wx
def CntRel (s:ByteArray) (_G:Nat) (w:World) (a b k:Value) (wr:World):Prop:=
 ∃(m q:Nat) (z:Int) (y:Bool),m<=3/\k=.int .i64 m/\Hid (q=cnt3 s.data.toList m)/\a=.int .i64 z/\b=.bool y/\Hid (z=(s.size:Int)-(q:Int))/\Hid (y=decide (q≠0))/\Below w.heap.size w wr
theorem bsr_any (g:Nat) (s:ByteArray) (hs:s.size<=1000000000) (w:World) (hb:BsRep w g):Calls Tryz.prog 352 #[.pointer (some ⟨g,0,none⟩),.string s] w (RStr (Lz.keepB s.data.toList) w):=by
 obtain⟨cs,hrow,hcs,G,cap0,cs2,hlast,hrow2,ht0,ht1,ht2⟩:=hb.row;have c256:=rowAt hrow 256 _ hlast;have t0:=rowAt hrow2 0 _ ht0;have t1:=rowAt hrow2 1 _ ht1;have t2:=rowAt hrow2 2 _ ht2;have hlen:=Lz.keepB_len s.data.toList;rw[len_of_size]at hlen;have hthree:=Lz.nblk_three s.data.toList;have HB:=Ih hb;clear hb hrow hcs hlast hrow2 ht0 ht1 ht2;go_enter Tryz.func352,Tryz.ntmps352;obtain⟨big,hbig⟩:∃big,big=decide (24<=s.size):=⟨_,rfl⟩;have Hbig:=Ih hbig;clear hbig
 go_upto_region 3 with fail
 go_cut [26] (fun s26 wx=>s26=.bool big/\w=wx)
 case first=>
  by_cases h24:24<=s.size
  ·have h24I:(24:Int)<=(s.size:Int):=by omega
   have hbt:big=true:=by rw[Hbig.out,decide_eq_true h24]
   subst hbt
   go_wp2_with fail
   go_meet;exact⟨rfl,rfl⟩
  ·have h24I:¬(24:Int)<=(s.size:Int):=by omega
   have hbt:big=false:=by rw[Hbig.out,decide_eq_false h24]
   subst hbt
   go_wp2_with fail
   go_meet;exact⟨rfl,rfl⟩
 case rest=>
 obtain⟨rfl,rfl⟩:=hcut
 go_upto_if 26 with fail
 go_cut [5,6] (fun s5 s6 wx=>SizeRel s w s5 s6 wx)
 case first=>
  cases big with
  | true=>
    have hGl:G<w.heap.size:=World.block_lt_of_cell? _ _ t0;have T0:=Ih t0;have T1:=Ih t1;have T2:=Ih t2
    have H3:Hid (∀k,cnt3 s.data.toList k<=s.size):=Ih (fun k=>by
     have h1:cnt3 s.data.toList k<=Lz.nblk s.data.toList:=by
      rw[<-hthree];unfold cnt3;split<;>omega
     omega)
    have Hthree:=Ih hthree;have Hlen:=Ih hlen;clear t0 t1 t2 hthree hlen
    go_wp2_with fail
    go_loopw [5,6,32] (fun a b k wr=>CntRel s G w a b k wr) (fun _ _ k _=>3-(intOf k).toNat)
    case atStart=>exact⟨0,0,s.size,false,by omega,rfl,Ih rfl,rfl,rfl,Ih (by simp),Ih rfl,Below.refl _ _⟩
    case round=>
     obtain⟨m,q,z,y,hm,rfl,hq,rfl,rfl,hz,hy,hbw⟩:=hrel;have hqs:q<=s.size:=by rw[hq.out];exact H3.out m
     have hz0:0<=z:=by rw[hz.out];omega
     have hz1:z<=(s.size:Int):=by rw[hz.out];omega
     have hs1:(s.size:Int)<=1000000000:=by omega
     obtain rfl|rfl|rfl|rfl:m=0\/m=1\/m=2\/m=3:=by omega
     ·have hcl:s.data.toList.count 13<=s.size:=by rw[<-len_of_size];exact List.count_le_length
      have u0:wr.cell? ⟨G,0,none⟩=some (.string ⟨#[13]⟩):=by rw[hbw.cell (p:=⟨G,0,none⟩) hGl];exact T0.out
      have cC:=Ih (Count_c s 13 wr);have hq2:Hid (q+s.data.toList.count 13=cnt3 s.data.toList 1):=by show _=_;rw[hq.out];simp[cnt3]
      have hq3:q+s.data.toList.count 13<=s.size:=by rw[hq2.out];exact H3.out 1
      generalize s.data.toList.count 13=n at cC hq2 hcl hq3;by_cases hn0:n=0
      ·have hnI:((n:Int) != 0)=false:=by rw[hn0];rfl
       have HF:Hid (CntRel s G w (.int .i64 z) (.bool y) (.int .i64 1) wr):=⟨1,q,z,y,by omega,rfl,by rw[<-hq2.out,hn0];rfl,rfl,rfl,hz,hy,hbw⟩;clear hn0 hq hq2
       go_wp2_with fail
       refine cC.out.mono ?_;rintro e w2 ⟨rfl,rfl⟩
       go_wp2_with fail
       go_roundw
       case rel=>exact HF.out
       case measure=>simp[intOf]
      ·have hnI:((n:Int) != 0)=true:=by simp[hn0]
       have hqn:Hid (decide (q+n≠0)=true):=Ih (decide_eq_true (by omega))
       obtain⟨A1,cp1,v1⟩:∃A cap,wr.cell? ⟨g,13,none⟩=some (.slice (some A) 0 cap):=by
        have h:=bs_cell (HB.out.below hbw) 13;exact h
       have hidx:=fun W:World=>idx13 W;clear hq
       go_wp2_with fail
       refine cC.out.mono ?_;rintro e w2 ⟨rfl,rfl⟩
       go_wp2_with fail
       go_quiet (fail)
       have hbq:Below w.heap.size w (wr.drewN nq):=below_drewN hbw nq;generalize wr.drewN nq=wq at hbq⊢;have HF:Hid (∀z2:Int,z2=(s.size:Int)-((q+n:Nat):Int)->CntRel s G w (.int .i64 z2) (.bool true) (.int .i64 1) wq):=Ih (fun z2 h2=>⟨1,q+n,z2,true,by omega,rfl,hq2,rfl,rfl,Ih h2,Ih (by rw[hqn.out]),hbq⟩)
       go_wp2_with fail
       go_roundw
       case rel=>exact HF.out _ (by rw[hz.out];omega)
       case measure=>simp[intOf]
     ·have hcl:s.data.toList.count 10<=s.size:=by rw[<-len_of_size];exact List.count_le_length
      have u1:wr.cell? ⟨G,1,none⟩=some (.string ⟨#[10]⟩):=by rw[hbw.cell (p:=⟨G,1,none⟩) hGl];exact T1.out
      have cC:=Ih (Count_c s 10 wr);have hq2:Hid (q+s.data.toList.count 10=cnt3 s.data.toList 2):=by show _=_;rw[hq.out];rfl
      have hq3:q+s.data.toList.count 10<=s.size:=by rw[hq2.out];exact H3.out 2
      generalize s.data.toList.count 10=n at cC hq2 hcl hq3;by_cases hn0:n=0
      ·have hnI:((n:Int) != 0)=false:=by rw[hn0];rfl
       have HF:Hid (CntRel s G w (.int .i64 z) (.bool y) (.int .i64 2) wr):=⟨2,q,z,y,by omega,rfl,by rw[<-hq2.out,hn0];rfl,rfl,rfl,hz,hy,hbw⟩;clear hn0 hq hq2
       go_wp2_with fail
       refine cC.out.mono ?_;rintro e w2 ⟨rfl,rfl⟩
       go_wp2_with fail
       go_roundw
       case rel=>exact HF.out
       case measure=>simp[intOf]
      ·have hnI:((n:Int) != 0)=true:=by simp[hn0]
       have hqn:Hid (decide (q+n≠0)=true):=Ih (decide_eq_true (by omega))
       obtain⟨A1,cp1,v1⟩:∃A cap,wr.cell? ⟨g,10,none⟩=some (.slice (some A) 0 cap):=by
        have h:=bs_cell (HB.out.below hbw) 10;exact h
       have hidx:=fun W:World=>idx10 W;clear hq
       go_wp2_with fail
       refine cC.out.mono ?_;rintro e w2 ⟨rfl,rfl⟩
       go_wp2_with fail
       go_quiet (fail)
       have hbq:Below w.heap.size w (wr.drewN nq):=below_drewN hbw nq;generalize wr.drewN nq=wq at hbq⊢;have HF:Hid (∀z2:Int,z2=(s.size:Int)-((q+n:Nat):Int)->CntRel s G w (.int .i64 z2) (.bool true) (.int .i64 2) wq):=Ih (fun z2 h2=>⟨2,q+n,z2,true,by omega,rfl,hq2,rfl,rfl,Ih h2,Ih (by rw[hqn.out]),hbq⟩)
       go_wp2_with fail
       go_roundw
       case rel=>exact HF.out _ (by rw[hz.out];omega)
       case measure=>simp[intOf]
     ·have hcl:s.data.toList.count 9<=s.size:=by rw[<-len_of_size];exact List.count_le_length
      have u2:wr.cell? ⟨G,2,none⟩=some (.string ⟨#[9]⟩):=by rw[hbw.cell (p:=⟨G,2,none⟩) hGl];exact T2.out
      have cC:=Ih (Count_c s 9 wr);have hq2:Hid (q+s.data.toList.count 9=cnt3 s.data.toList 3):=by show _=_;rw[hq.out];rfl
      have hq3:q+s.data.toList.count 9<=s.size:=by rw[hq2.out];exact H3.out 3
      generalize s.data.toList.count 9=n at cC hq2 hcl hq3;by_cases hn0:n=0
      ·have hnI:((n:Int) != 0)=false:=by rw[hn0];rfl
       have HF:Hid (CntRel s G w (.int .i64 z) (.bool y) (.int .i64 3) wr):=⟨3,q,z,y,by omega,rfl,by rw[<-hq2.out,hn0];rfl,rfl,rfl,hz,hy,hbw⟩;clear hn0 hq hq2
       go_wp2_with fail
       refine cC.out.mono ?_;rintro e w2 ⟨rfl,rfl⟩
       go_wp2_with fail
       go_roundw
       case rel=>exact HF.out
       case measure=>simp[intOf]
      ·have hnI:((n:Int) != 0)=true:=by simp[hn0]
       have hqn:Hid (decide (q+n≠0)=true):=Ih (decide_eq_true (by omega))
       obtain⟨A1,cp1,v1⟩:∃A cap,wr.cell? ⟨g,9,none⟩=some (.slice (some A) 0 cap):=by
        have h:=bs_cell (HB.out.below hbw) 9;exact h
       have hidx:=fun W:World=>idx9 W;clear hq
       go_wp2_with fail
       refine cC.out.mono ?_;rintro e w2 ⟨rfl,rfl⟩
       go_wp2_with fail
       go_quiet (fail)
       have hbq:Below w.heap.size w (wr.drewN nq):=below_drewN hbw nq;generalize wr.drewN nq=wq at hbq⊢;have HF:Hid (∀z2:Int,z2=(s.size:Int)-((q+n:Nat):Int)->CntRel s G w (.int .i64 z2) (.bool true) (.int .i64 3) wq):=Ih (fun z2 h2=>⟨3,q+n,z2,true,by omega,rfl,hq2,rfl,rfl,Ih h2,Ih (by rw[hqn.out]),hbq⟩)
       go_wp2_with fail
       go_roundw
       case rel=>exact HF.out _ (by rw[hz.out];omega)
       case measure=>simp[intOf]
     ·have hqe:q=Lz.nblk s.data.toList:=by rw[hq.out,<-Hthree.out];rfl
      have HF:Hid (SizeRel s w (.int .i64 z) (.bool y) wr):=⟨(Lz.keepB s.data.toList).length,y,by have:=Hlen.out;have:=hz.out;congr 1;omega,rfl,Ih rfl,Ih (by rw[hy.out,hqe]),hbw⟩;clear hq hqe
      go_wp2_with fail
      go_meet;exact HF.out
  | false=>
    have Hlen:=Ih hlen;clear t0 t1 t2 hthree hlen c256 Hbig
    go_wp2_with fail
    go_loopw [5,6,10] (fun a b k wr=>∃(i q:Nat) (z:Int) (y:Bool),i<=s.size/\k=.int .i64 i/\Hid (q=Lz.nblk (s.data.toList.take i))/\a=.int .i64 z/\b=.bool y/\Hid (z=(s.size:Int)-(q:Int))/\Hid (y=decide (q≠0))/\w=wr) (fun _ _ k _=>s.size-(intOf k).toNat)
    case atStart=>exact⟨0,0,s.size,false,Nat.zero_le _,rfl,Ih rfl,rfl,rfl,Ih (by simp),Ih rfl,rfl⟩
    case round=>
     obtain⟨i,q,z,y,hi,rfl,hq,rfl,rfl,hz,hy,rfl⟩:=hrel
     have hqs:q<=s.size:=by
      have h1:=Lz.nblk_take_le s.data.toList i;have h2:=Hlen.out;rw[hq.out];omega
     have hz0:0<=z:=by rw[hz.out];omega
     have hz1:z<=(s.size:Int):=by rw[hz.out];omega
     have hs1:(s.size:Int)<=1000000000:=by omega
     by_cases hlt:i<s.size
     ·have hltI:(i:Int)<(s.size:Int):=by omega
      have hi0:(0:Int)<=(i:Int):=by omega
      obtain⟨c,hc⟩:∃c,c=s[i]:=⟨_,rfl⟩;have hcI:(s[i].toNat:Int)=(c.toNat:Int):=by rw[hc]
      have hcg:s.data.toList[i]? =some c:=by rw[get_of_lt hlt,hc]
      have hns:=Lz.nblk_take_succ hcg;have hcell:=bs_cell HB.out c;have hc256:(c.toNat:Int)<256:=by have:=c.toNat_lt;omega
      have hc0:(0:Int)<=(c.toNat:Int):=by omega
      cases hb:Lz.blkQ c with
      | true=>
        rw[hb,if_pos rfl]at hcell hns;obtain⟨A1,cp1,v1⟩:=hcell;have hq2:Hid (q+1=Lz.nblk (s.data.toList.take (i+1))):=by show _=_;rw[hns,hq.out]
        have hy2:Hid (true=decide (q+1≠0)):=Ih (by simp);have hnn:=fun W:World=>run_neq_slice_nil_any (P:=Tryz.prog) W 35 5 (some A1) 0 cp1 0 0 Tryz.underlying35;clear hb hns hc hcg hq
        go_wp2_with fail
        go_roundw
        case rel=>exact⟨i+1,q+1,z-1,true,by omega,by go_num,hq2,by go_num,rfl,Ih (by rw[hz.out];omega),hy2,trivial⟩
        case measure=>simp[intOf];omega
      | false=>
        rw[hb,if_neg (by simp)]at hcell hns;have hq2:Hid (q=Lz.nblk (s.data.toList.take (i+1))):=by show _=_;rw[hns,hq.out];rfl
        have hnn:=fun W:World=>run_neq_slice_nil_any (P:=Tryz.prog) W 35 5 none 0 0 0 0 Tryz.underlying35;clear hb hns hc hcg hq
        go_wp2_with fail
        go_roundw
        case rel=>exact⟨i+1,q,z,y,by omega,by go_num,hq2,rfl,rfl,hz,hy,trivial⟩
        case measure=>simp[intOf];omega
     ·have hltI:¬(i:Int)<(s.size:Int):=by omega
      have hqe:q=Lz.nblk s.data.toList:=by rw[hq.out,List.take_of_length_le (by rw[len_of_size];omega)]
      have HF:Hid (SizeRel s w (.int .i64 z) (.bool y) w):=⟨(Lz.keepB s.data.toList).length,y,by have:=Hlen.out;have:=hz.out;congr 1;omega,rfl,Ih rfl,Ih (by rw[hy.out,hqe]),Below.refl _ _⟩;clear hq hqe
      go_wp2_with fail
      go_meet;exact HF.out
 case rest=>
  obtain⟨kn,y,rfl,rfl,hkn,hy,hbw⟩:=hcut;have Hlen:=Ih hlen;clear t0 t1 t2 hthree hlen c256 Hbig;cases y with
  | false=>
    have HK:Hid (s.data.toList=Lz.keepB s.data.toList):=Ih (Lz.nblk_zero (by have:=of_decide_eq_false hy.out.symm;omega)).symm
    go_wp2_with fail
    go_ret;exact⟨s,rfl,HK,hbw⟩
  | true=>
    obtain⟨iu,hiu,hzu0,hzu1,hzu2⟩:=info_parts Tryz.infoU8;have hks:kn<=s.size:=by rw[hkn.out];have:=Hlen.out;omega
    have hbsz:=hbw.size
    go_wp2_with (refine wpList_make_full _ rfl (.tmp 84) (.tmp 84) 35 rfl w.heap.size 5 iu (.int .u8 0) 1 Tryz.underlying35 hiu hzu0 hzu1 .i64 .i64 kn kn kn rfl rfl rfl rfl (by rw[hzu2];omega) (by unfold maxLen;omega) hbsz ?_)
    intro w2 hown2 hg2;have hb2:Below w.heap.size w w2:=hbw.grown hg2 hbsz (fun k hk=>by cases hk);obtain⟨GB,hGB⟩:∃GB,GB=wc.heap.size:=⟨_,rfl⟩;rw[<-hGB]at hown2⊢
    have hown3:w2.ownsRow w.heap.size 5 1 (.slice (some ⟨GB,0,none⟩) kn kn) kn (u8s (Lz.keepB (s.data.toList.take 0))++List.replicate (kn-0) (.int .u8 0)):=by
     rw[toList_madeCells_one]at hown2;exact hown2
    have Hown3:=Ih hown3;have HB2:=Ih hb2;clear hown2 hown3 hg2 hb2 hGB hbw
    go_wp2_with fail
    go_loopw [13,14] (fun a b wr=>∃i j:Nat,i<=s.size/\a=.int .i64 j/\b=.int .i64 i/\Hid (j=(Lz.keepB (s.data.toList.take i)).length)/\Below w.heap.size w wr/\Hid (wr.ownsRow w.heap.size 5 1 (.slice (some ⟨GB,0,none⟩) kn kn) kn (u8s (Lz.keepB (s.data.toList.take i))++List.replicate (kn-j) (.int .u8 0)))) (fun _ b _=>s.size-(intOf b).toNat)
    case atStart=>exact⟨0,0,Nat.zero_le _,rfl,rfl,Ih rfl,HB2.out,Hown3⟩
    case round=>
     obtain⟨i,j,hi,rfl,rfl,hj,hbw,hO⟩:=hrel
     have hjk:j<=kn:=by
      rw[hj.out,hkn.out];have h1:=Lz.keepB_len (s.data.toList.take i);unfold Lz.keepB;exact List.Sublist.length_le (List.Sublist.filter _ (List.take_sublist i _))
     have hjkI:(j:Int)<=(kn:Int):=by omega
     by_cases hlt:i<s.size
     ·have hltI:(i:Int)<(s.size:Int):=by omega
      have hi0:(0:Int)<=(i:Int):=by omega
      have hj0:(0:Int)<=(j:Int):=by omega
      obtain⟨c,hc⟩:∃c,c=s[i]:=⟨_,rfl⟩;have hcI:(s[i].toNat:Int)=(c.toNat:Int):=by rw[hc]
      have hcg:s.data.toList[i]? =some c:=by rw[get_of_lt hlt,hc]
      have hns:=Lz.keepB_take_succ hcg;have hcell:=bs_cell (HB.out.below hbw) c;have hc256:(c.toNat:Int)<256:=by have:=c.toNat_lt;omega
      have hc0:(0:Int)<=(c.toNat:Int):=by omega
      cases hb:Lz.blkQ c with
      | true=>
        rw[hb,if_pos rfl]at hcell hns;obtain⟨A1,cp1,v1⟩:=hcell;rw[List.append_nil]at hns;have hnn:=fun W:World=>run_neq_slice_nil_any (P:=Tryz.prog) W 35 5 (some A1) 0 cp1 0 0 Tryz.underlying35;have hcp:=fun(d:Option Addr) (dl dc:Nat) (ty:TypeId) (W:World)=>run_copy_none (P:=Tryz.prog) W 35 35 ty 5 d (some A1) dl dc 0 cp1 Tryz.underlying35 (by kernel_rfl) (by simp);have hO2:Hid (∀W,Below wr.heap.size wr W->W.ownsRow w.heap.size 5 1 (.slice (some ⟨GB,0,none⟩) kn kn) kn (u8s (Lz.keepB (s.data.toList.take (i+1)))++List.replicate (kn-j) (.int .u8 0))):=Ih (fun W hW=>by rw[hns];exact own_below hO.out hW);have hj2:Hid (j=(Lz.keepB (s.data.toList.take (i+1))).length):=by show _=_;rw[hns];exact hj.out
        clear hb hns hc hcg hj hO
        go_wp2_with fail
        go_region
        all_goals
         go_wp2_with fail
         go_roundw
         case rel=>exact⟨i+1,j,by omega,by go_num,by go_num,hj2,hbw.drew,Ih (hO2.out _ (Below.refl _ _).drew)⟩
         case measure=>simp[intOf];omega
      | false=>
        rw[hb,if_neg (by simp)]at hcell hns;have hnn:=fun W:World=>run_neq_slice_nil_any (P:=Tryz.prog) W 35 5 none 0 0 0 0 Tryz.underlying35;have hj2:Hid (j+1=(Lz.keepB (s.data.toList.take (i+1))).length):=by show _=_;rw[hns,hj.out,List.length_append];rfl
        have hjlt:j<kn:=by
         have h1:(Lz.keepB (s.data.toList.take (i+1))).length<=(Lz.keepB s.data.toList).length:=by
          unfold Lz.keepB;exact List.Sublist.length_le (List.Sublist.filter _ (List.take_sublist (i+1) _))
         rw[<-hj2.out,<-hkn.out]at h1;omega
        have hjltI:(j:Int)<(kn:Int):=by omega
        have hgl:GB<wr.heap.size:=(hO.out.lt GB rfl).2;have hgw:w.heap.size<=GB:=(hO.out.lt GB rfl).1
        obtain⟨vj,cj⟩:∃v,wr.cell? ⟨GB,j,none⟩=some v:=by
         have h1:=hO.out.cellAt j (by omega);have h2:j<(u8s (Lz.keepB (s.data.toList.take i))++List.replicate (kn-j) (Value.int .u8 0)).length:=by rw[hO.out.1];omega
         exact⟨_,h1.trans (List.getElem?_eq_getElem h2)⟩
        have fj:=hO.out.frozenAt j;have hst:=(hO.out.stored j (.int .u8 (c.toNat:Int))).1
        have hset:(u8s (Lz.keepB (s.data.toList.take i))++List.replicate (kn-j) (Value.int .u8 0)).set j (.int .u8 (c.toNat:Int))=u8s (Lz.keepB (s.data.toList.take (i+1)))++List.replicate (kn-(j+1)) (Value.int .u8 0):=by
         have hl:(u8s (Lz.keepB (s.data.toList.take i))).length=j:=by rw[hj.out];simp[u8s]
         rw[List.set_append_right _ _ (by omega),hl,Nat.sub_self,hns,show kn-j=(kn-(j+1))+1 by omega,List.replicate_succ,List.set_cons_zero]
         simp[u8s]
        rw[hset]at hst;have hb3:=hbw.setCell (p:=⟨GB,j,none⟩) hgw (.int .u8 (c.toNat:Int));have HF:Hid (wr.setCell ⟨GB,j,none⟩ (.int .u8 (c.toNat:Int)) |>.ownsRow w.heap.size 5 1 (.slice (some ⟨GB,0,none⟩) kn kn) kn (u8s (Lz.keepB (s.data.toList.take (i+1)))++List.replicate (kn-(j+1)) (.int .u8 0))):=Ih hst;have Hb3:=Ih hb3;clear hb hns hc hcg hj hO hset hst hb3
        go_wp2_with fail
        go_roundw
        case rel=>exact⟨i+1,j+1,by omega,by go_num,by go_num,hj2,Hb3.out,HF⟩
        case measure=>simp[intOf];omega
     ·have hltI:¬(i:Int)<(s.size:Int):=by omega
      have htk:s.data.toList.take i=s.data.toList:=List.take_of_length_le (by rw[len_of_size];omega);have hje:j=kn:=by rw[hj.out,htk,hkn.out]
      have hO2:wr.ownsRow w.heap.size 5 1 (.slice (some ⟨GB,0,none⟩) kn kn) kn (u8s (Lz.keepB s.data.toList)):=by
       have h1:=hO.out;rw[hje,Nat.sub_self,htk]at h1;simpa using h1
      have hcv:=conv_own hO2;clear hj hO hje htk hO2
      go_wp2_with fail
      go_ret;exact⟨_,rfl,Ih rfl,hbw⟩
end Go.Proofs.YtfepgodjaeddgaaGreatDoor
namespace Lz
open Go
theorem clean_sp (s:Bs):cleanP s=keepB ((s.dropWhile spQ).reverse.dropWhile spQ).reverse:=rfl
end Lz
namespace Go.Proofs.YtfepgodjaeddgaaGreatDoor
open Go.RowKit
structure EnvU (w:World):Prop where
 h:EnvH w
 u8:Lib.Utf8Tabs 4 5 w
theorem EnvU.below {w w':World} (h:EnvU w) (hb:Below w.heap.size w w'):EnvU w':=⟨h.h.below hb,Utf8Tabs_below h.u8 hb⟩
theorem fn_clean1 (args:Array Value) (w:World):(callFunc 92 args).run Tryz.prog w=.ok (.enter 92 args) w:=enters_of Tryz.func92 (by kernel_rfl) rfl args w
theorem clean1_any (x:Nat) (hx:x<=1114111) (w:World):Calls Tryz.prog 92 #[.int .i32 (x:Int)] w fun e w'=>e=.returned (.bool (Lz.pSp x))/\Below w.heap.size w w':=by
 by_cases h:x<=32
 ·have hp:Lz.pSp x=true:=decide_eq_true h;have hI:(x:Int)<=32:=by omega
  rw[hp];clear h hp;go_enter Tryz.func92,Tryz.ntmps92
  go_wp2
  go_ret;exact⟨rfl,Below.refl _ _⟩
 ·have hp:Lz.pSp x=false:=decide_eq_false h;have hI:¬(x:Int)<=32:=by omega
  rw[hp];clear h hp;go_enter Tryz.func92,Tryz.ntmps92
  go_wp2
  go_ret;exact⟨rfl,Below.refl _ _⟩
theorem TrimFunc_c (s:ByteArray) (hs:s.size<=1000000000) (w:World) (hE:EnvU w):Calls Tryz.prog 91 #[.string s,.func (.func 92) #[] #[]] w (RStr ((s.data.toList.dropWhile Lz.spQ).reverse.dropWhile Lz.spQ).reverse w):=
 (Tryz.strings_TrimFunc_grows 92 #[] fn_clean1 Lz.pSp s w (by omega) hE.u8 (fun W x hx _=>clean1_any x hx W)).mono fun _ _ ⟨he,hb⟩=>⟨_,he,Ih (Lz.trim_sp s),hb⟩
theorem repl_any (B b G c:Nat) (s:ByteArray) (hs:s.size<=1000000000) (w:World) (hBb:B<=b) (hr:RepRow w b 0 0 0 .nilIface (.slice (some ⟨G,0,none⟩) 6 c)) (hown:w.ownsRow B 9 1 (.slice (some ⟨G,0,none⟩) 6 c) 6 (rsB.map Value.string)) (hB:B<=w.heap.size):
  Calls Tryz.prog 94 #[.pointer (some ⟨b,0,none⟩),.string s] w fun e w'=>∃u:ByteArray,e=.returned (.string u)/\Hid (u.data.toList=Lz.keepB s.data.toList)/\Below B w w':=by
 have hown2:=hown.kept (grown_setCell w ⟨b,1,none⟩ (.int .i32 1)) (.inr (by
  simp[Value.ownBlock]
  intro e;rcases hown.2 with⟨h,_⟩|⟨g1,cap,cur,h,_,hh,_⟩
  ·cases h
  ·injection h with h _ _;injection h with h;injection h with h1 _ _
   have h2:w.heap[b]? =_:=hr;rw[<-e,h1,hh]at h2;injection h2 with h2
   injection h2 with _ h3 _
   exact absurd h3 (by decide)))
 have cD:=Ih (doO B b 0 .nilIface (.slice (some ⟨G,0,none⟩) 6 c) w hBb hr (fun W hW hWe=>by
  have hr2:RepRow W b 0 1 0 .nilIface (.slice (some ⟨G,0,none⟩) 6 c):=by rw[hWe];exact RepRow.set hr 1 (.int .i32 1) (by simp)
  rw[<-hWe]at hown2;exact bo_any B b 0 G c W hBb hr2 hown2 (Nat.le_trans hB hW.size)))
 have hmf:∀(fn:Fn) (first cap:Array Value) (w:World),(Instr.makeFunc fn first cap).run Tryz.prog w=.ok (.func fn first cap) w:=fun _ _ _ _=>rfl;clear hown hown2 hr;go_enter Tryz.func94,Tryz.ntmps94
 go_wp2_with fail
 refine cD.out.mono ?_;rintro e w1 ⟨rfl,hb1,g,hr1,hbs⟩;have c3:=rowAt hr1 3 (.iface 231 (.pointer (some ⟨g,0,none⟩))) rfl;have nu:∀w,(nilAhead 453 231 (.pointer (some ⟨g,0,none⟩)) "Replace").run Tryz.prog w=.ok (some false) w:=fun _=>by kernel_rfl
 have mU:∀w,(Go.method 453 231 (.pointer (some ⟨g,0,none⟩)) "Replace").run Tryz.prog w=.ok (352,.pointer (some ⟨g,0,none⟩)) w:=fun _=>by kernel_rfl
 have cR:=Ih (bsr_any g s hs w1 hbs);clear hr1 hbs
 go_wp2_with fail
 refine cR.out.mono ?_;rintro e w2 ⟨u,rfl,hu,hb2⟩
 go_wp2_with fail
 go_ret;exact⟨u,rfl,hu,hb1.trans (hb2.mono (Nat.le_trans hB hb1.size))⟩
theorem clean_any (s:ByteArray) (hs:s.size<=1000000000) (w:World) (hE:EnvU w):Calls Tryz.prog 54 #[.string s] w (RStr (Lz.cleanP s.data.toList) w):=by
 have cT:=Ih (TrimFunc_c s hs w hE);have HC:Hid (Lz.cleanP s.data.toList=Lz.keepB ((s.data.toList.dropWhile Lz.spQ).reverse.dropWhile Lz.spQ).reverse):=Ih (Lz.clean_sp _)
 have hlen:((s.data.toList.dropWhile Lz.spQ).reverse.dropWhile Lz.spQ).reverse.length<=s.size:=by
  rw[List.length_reverse];refine Nat.le_trans (List.dropWhile_sublist _).length_le ?_;rw[List.length_reverse];exact(List.dropWhile_sublist _).length_le
 go_enter Tryz.func54,Tryz.ntmps54
 go_wp2_with fail
 refine cT.out.mono ?_;rintro e w1 ⟨u,rfl,hu,hb1⟩;have hus:u.size<=s.size:=by rw[<-len_of_size,hu.out];exact hlen
 have hcell:∀(j:Nat) (x:Value),(rsB.map Value.string)[j]? =some x->(w1.alloc (.cells #[.string ⟨#[9]⟩,.string ⟨#[]⟩,.string ⟨#[10]⟩,.string ⟨#[]⟩,.string ⟨#[13]⟩,.string ⟨#[]⟩] 9)).cell? ((⟨w1.heap.size,0,none⟩:Addr).add j)=some x:=by
  intro j x hj;rw[addr_add,World.cell?_alloc_mark];rw[<-Array.getElem?_toList];exact hj
 have cN:=Ih (NewR_any w1.heap.size ⟨w1.heap.size,0,none⟩ 6 _ (by simp) hcell);clear hcell
 go_wp2_with fail
 refine cN.out.mono ?_;rintro e w2 ⟨b,G,c,rfl,hBb,hr,hown,hb2⟩;have hb2':Below w1.heap.size w1 w2:=((Below.refl _ w1).alloc (Nat.le_refl _) _).trans (hb2.mono (by simp));have cR:=Ih (repl_any w1.heap.size b G c u (by omega) w2 hBb hr hown hb2'.size);clear hr hown
 go_wp2_with fail
 refine cR.out.mono ?_;rintro e w3 ⟨v,rfl,hv,hb3⟩
 go_wp2_with fail
 go_ret;exact⟨v,rfl,Ih (by rw[HC.out,hv.out,hu.out]),below_call hb1 (hb2'.trans hb3)⟩
def pSch (x:Nat):Bool:=if x<128 then !Lz.schemeC (UInt8.ofNat x)else true
def plusB:ByteArray:=⟨#[43,45,46]⟩
theorem plus_at:∀x:Fin 128,decide (0<=Lib.indexByte plusB.data.toList x.val.toUInt8)=(UInt8.ofNat x.val==43||UInt8.ofNat x.val==45||UInt8.ofNat x.val==46):=by decide +kernel
theorem sch_127:Lz.schemeC (UInt8.ofNat 127)=false:=by decide +kernel
theorem sch1_any (x:Nat) (hx:x<=1114111) (w:World):Calls Tryz.prog 139 #[.int .i32 (x:Int)] w fun e w'=>e=.returned (.bool (pSch x))/\Below w.heap.size w w':=by
 by_cases h:126<x
 ·have hp:pSch x=true:=by
   unfold pSch;split
   ·obtain rfl:x=127:=by omega
    rw[sch_127];rfl
   ·rfl
  have hI:(126:Int)<(x:Int):=by omega
  rw[hp];clear h hp;go_enter Tryz.func139,Tryz.ntmps139
  go_wp2_with fail
  go_ret;exact⟨rfl,Below.refl _ _⟩
 ·have hI:¬(126:Int)<(x:Int):=by omega
  obtain⟨c,hc⟩:∃c:UInt8,c=UInt8.ofNat x:=⟨_,rfl⟩;have hcx:c.toNat=x:=by rw[hc,UInt8.toNat_ofNat'];omega
  have hp:pSch x= !(Lz.isAlpha c||Lz.isDigit c||(c==43||c==45||c==46)):=by
   unfold pSch;rw[if_pos (by omega),<-hc];unfold Lz.schemeC;simp only[Bool.or_assoc]
  have hcv:IntKind.u8.wrap (x:Int)=(c.toNat:Int):=by rw[hcx];exact IntWalk.u8_in _ (by omega)
  have hcw:IntKind.u8.wrap (c.toNat:Int)=(c.toNat:Int):=by rw[hcx];exact IntWalk.u8_in _ (by omega)
  have cA:=Alpha_any c w;have cD:=Digit_any c w;have cC:=Tryz.strings_ContainsRune_ascii plusB (x:Int) w (by omega) (by omega);rw[show((x:Int)).toNat=x by omega,plus_at ⟨x,by omega⟩,show UInt8.ofNat x=c from hc.symm]at cC;rw[hp];generalize Lz.isAlpha c=qa at cA;generalize Lz.isDigit c=qd at cD;generalize (c==43||c==45||c==46)=qc at cC;have hxc:(x:Int)=(c.toNat:Int):=by omega
  rw[hxc]at cC hI⊢;have CA:=Ih cA;have CD:=Ih cD;have CC:=Ih (cC.mono fun _ _ (h:_/\_)=>(⟨h.1,h.2.symm⟩:_/\w=_));clear cA cD cC hp hcv hxc hc h hcx hx;cases qa with
  | true=>
    go_enter Tryz.func139,Tryz.ntmps139
    go_wp2_with fail
    refine CA.out.mono ?_;rintro e w1 ⟨rfl,rfl⟩
    go_wp2_with fail
    go_ret;exact⟨rfl,Below.refl _ _⟩
  | false=>
    cases qd with
    | true=>
      go_enter Tryz.func139,Tryz.ntmps139
      go_wp2_with fail
      refine CA.out.mono ?_;rintro e w1 ⟨rfl,rfl⟩
      go_wp2_with fail
      refine CD.out.mono ?_;rintro e w1 ⟨rfl,rfl⟩
      go_wp2_with fail
      go_ret;exact⟨rfl,Below.refl _ _⟩
    | false=>
      go_enter Tryz.func139,Tryz.ntmps139
      go_wp2_with fail
      refine CA.out.mono ?_;rintro e w1 ⟨rfl,rfl⟩
      go_wp2_with fail
      refine CD.out.mono ?_;rintro e w1 ⟨rfl,rfl⟩
      go_wp2_with fail
      refine CC.out.mono ?_;rintro e w1 ⟨rfl,rfl⟩
      go_wp2_with fail
      go_ret;exact⟨by cases qc<;>rfl,Below.refl _ _⟩
theorem pSch_hi (x:Nat) (h:128<=x):pSch x=true:=by unfold pSch;rw[if_neg (by omega)]
theorem pSch_lo (c:UInt8) (h:c.toNat<128):pSch c.toNat= !Lz.schemeC c:=by unfold pSch;rw[if_pos h];simp
theorem sch_hi:∀c:UInt8,128<=c.toNat->(!Lz.schemeC c)=true:=Lz.byte_all (by decide +kernel)
theorem fn_sch1 (args:Array Value) (w:World):(callFunc 139 args).run Tryz.prog w=.ok (.enter 139 args) w:=enters_of Tryz.func139 (by kernel_rfl) rfl args w
theorem IndexFunc_sch (s:ByteArray) (w:World):Calls Tryz.prog 138 #[.string s,.func (.func 139) #[] #[]] w fun e w'=>∃i:Int,e=.returned (.int .i64 i)/\Hid (decide (0<=i)= !s.data.toList.all Lz.schemeC)/\Below w.heap.size w w':=by
 refine(Tryz.strings_IndexFunc_grows 139 #[] fn_sch1 pSch s w (fun W x hx _=>sch1_any x hx W)).mono ?_;rintro e w' ⟨he,hb⟩;refine⟨_,he,Ih ?_,hb⟩;have:=Lz.idx_any (q:=fun c=> !Lz.schemeC c) pSch_hi pSch_lo sch_hi s s.size 0 (by omega);rw[List.drop_zero]at this;refine this.trans ?_;rw[List.not_all_eq_any_not]
def schOk (s:List UInt8):Bool:=(Lib.cut s [58]).2.2&& !(Lib.cut s [58]).1.isEmpty&&(match (Lib.cut s [58]).1 with|a::_=>Lz.isAlpha a|[]=>false)&&(Lib.cut s [58]).1.all Lz.schemeC
theorem schemed_eq (s:List UInt8):Lz.schemedP s=if schOk s then(Lz.low (Lib.cut s [58]).1,(Lib.cut s [58]).2.1,true)else([],s,false):=rfl
theorem schemedU_any (s:ByteArray) (hs:s.size<=1000000000) (w:World) (hE:EnvH w):Calls Tryz.prog 95 #[.string s] w (RStrStrB (Lz.schemedP s.data.toList).1 (Lz.schemedP s.data.toList).2.1 (Lz.schemedP s.data.toList).2.2 w):=by
 have cC:=Ih (Cut_h s ⟨#[58]⟩ (by omega) w hE);have hS:=schemed_eq s.data.toList;have hcl:=Lz.cut_len 58 s.data.toList;obtain⟨ok,hok⟩:∃ok,ok=(Lib.cut s.data.toList [58]).2.2:=⟨_,rfl⟩;rw[show(⟨#[58]⟩:ByteArray).data.toList=[58]from rfl,<-hok]at cC;have HS:=Ih hS;have Hok:=Ih hok;clear hS hok;go_enter Tryz.func95,Tryz.ntmps95
 go_wp2_with fail
 refine cC.out.mono ?_;rintro e w1 ⟨a,r,rfl,ha,hr,hb1⟩;have has:a.size<=s.size:=by rw[<-len_of_size,ha.out];rw[len_of_size]at hcl;omega
 have cI:=Ih (IndexFunc_sch a w1)
 go_wp2_with fail
 refine cI.out.mono ?_;rintro e w2 ⟨i,rfl,hi,hb2⟩;have hb02:=below_call hb1 hb2
 have hsk:schOk s.data.toList=(ok&& !a.data.toList.isEmpty&&(match a.data.toList with|a::_=>Lz.isAlpha a|[]=>false)&&a.data.toList.all Lz.schemeC):=by
  unfold schOk;rw[<-Hok.out,<-ha.out]
 have HN:Hid (schOk s.data.toList=false->Lz.schemedP s.data.toList=([],s.data.toList,false)):=Ih (fun h=>by rw[HS.out,h];rfl);cases ok with
 | false=>
   have HF:=Ih (HN.out (by rw[hsk];rfl));clear hsk ha
   go_wp2_with fail
   go_ret3
   rw[HF.out];exact⟨_,_,rfl,Ih rfl,Ih rfl,hb02⟩
 | true=>
   by_cases he:a.data.toList=[]
   ·have HF:=Ih (HN.out (by rw[hsk,he];rfl));have g0:=text_yes he;have hem:a.toList.isEmpty=true:=isEmpty_of_size (by rw[<-len_of_size,he];rfl);clear hsk ha he
    go_wp2_with fail
    go_ret3
    rw[HF.out];exact⟨_,_,rfl,Ih rfl,Ih rfl,hb02⟩
   ·have g0:=text_no he;have hap:0<a.size:=by rw[<-len_of_size];exact List.length_pos_iff.2 he
    have hapI:(0:Int)<(a.size:Int):=by omega
    have hem:a.toList.isEmpty=false:=isEmpty_of_pos hap;obtain⟨c,hc⟩:∃c,c=a[0]:=⟨_,rfl⟩;have hcI:(a[0].toNat:Int)=(c.toNat:Int):=by rw[hc]
    have hcg:a.data.toList[0]? =some c:=by rw[get_of_lt hap,hc]
    have hsk2:schOk s.data.toList=(Lz.isAlpha c&&a.data.toList.all Lz.schemeC):=by
     rw[hsk];cases hl:a.data.toList with
     | nil=>exact absurd hl he
     | cons x xs=>
       rw[hl]at hcg;have:x=c:=by simpa using hcg
       simp[this]
    have cA:=Alpha_any c w2;cases hal:Lz.isAlpha c with
    | false=>
      rw[hal]at cA hsk2;have HF:=Ih (HN.out (by rw[hsk2];rfl));have CA:=Ih cA;clear hsk hsk2 ha he hc hcg cA hal
      go_wp2_with fail
      refine CA.out.mono ?_;rintro e w3 ⟨rfl,rfl⟩
      go_wp2_with fail
      go_ret3
      rw[HF.out];exact⟨_,_,rfl,Ih rfl,Ih rfl,hb02⟩
    | true=>
      rw[hal]at cA hsk2;have CA:=Ih cA;by_cases hi0:0<=i
      ·have HF:=Ih (HN.out (by
        have h1:=hi.out;rw[decide_eq_true hi0]at h1;rw[hsk2,Bool.true_and];cases h2:a.data.toList.all Lz.schemeC with
        | false=>rfl
        | true=>rw[h2]at h1;cases h1))
       clear hsk hsk2 ha he hc hcg cA hal
       go_wp2_with fail
       refine CA.out.mono ?_;rintro e w3 ⟨rfl,rfl⟩
       go_wp2_with fail
       go_ret3
       rw[HF.out];exact⟨_,_,rfl,Ih rfl,Ih rfl,hb02⟩
      ·have HF:Hid (Lz.schemedP s.data.toList=(Lz.low a.data.toList,r.data.toList,true)):=by
        show _=_;have h1:=hi.out;rw[decide_eq_false hi0]at h1
        have h2:schOk s.data.toList=true:=by
         rw[hsk2,Bool.true_and];cases h2:a.data.toList.all Lz.schemeC with
         | false=>rw[h2]at h1;cases h1
         | true=>rfl
        rw[HS.out,if_pos h2,ha.out,hr.out]
       have cL:=Ih (fun W=>Lower_c a (by omega) W);clear hsk hsk2 ha he hc hcg cA hal
       go_wp2_with fail
       refine CA.out.mono ?_;rintro e w3 ⟨rfl,rfl⟩
       go_wp2_with fail
       refine(cL.out _).mono ?_;rintro e w3 ⟨l,rfl,hl,hb3⟩
       go_wp2_with fail
       go_ret3
       rw[HF.out];exact⟨_,_,rfl,hl,Ih rfl,below_call hb02 hb3⟩
end Go.Proofs.YtfepgodjaeddgaaGreatDoor
namespace Lz
open Go
theorem main_parts {s:Bs} {b:Option UrlL} {v:UrlL} (hv:mainU {query:=(Lib.cut (Lib.cut (cleanP s) [35]).1 [63]).2.1,hasQuery:=(Lib.cut (Lib.cut (cleanP s) [35]).1 [63]).2.2,fragment:=(Lib.cut (cleanP s) [35]).2.1,hasFragment:=(Lib.cut (cleanP s) [35]).2.2} (Lib.cut (Lib.cut (cleanP s) [35]).1 [63]).1 b=.ok v)
  (hb:∀x,b=some x->NU x):v.query.length<=s.length+bq b/\v.fragment.length<=s.length:=by
 have hc:=clean_len s;have f:=cut_len 35 (cleanP s);have q:=cut_len 63 (Lib.cut (cleanP s) [35]).1;have f':=cut_facts 35 (cleanP s);have q':=cut_facts 63 (Lib.cut (cleanP s) [35]).1;have hl:= @clean_last s;generalize Lib.cut (cleanP s) [35]=F at hv f q f' q';generalize Lib.cut F.1 [63]=G at hv q q';obtain⟨f1,f2,f3,_⟩:=f';obtain⟨q1,q2,q3,_⟩:=q';obtain⟨h1,h2⟩:=mainU_all hv ⟨rfl,rfl,rfl,rfl,rfl,rfl,rfl⟩ hb
 have hfr:v.fragment=F.2.1:=(mainU_form hv ⟨rfl,rfl,rfl,rfl,rfl,rfl,rfl⟩ (fun h=>f1 (q3 _ h)) q1
  (fun h1 h2 h=>by
   have e1:=(q2 h1).1;have e2:=(f2 h2).1;rw[e1,e2]at h;have:=hl h;cases this)
  (fun h=>(q2 h).2) hb).2.2.2
 refine⟨?_,by rw[hfr];omega⟩;rcases h2 with h2|⟨x,rfl,h3,h4⟩
 ·have h2':v.query=G.2.1:=h2;rw[h2'];omega
 ·rw[h4];show x.query.length<=_+wq x;unfold wq;omega
theorem path_wq (u:UrlL):u.path.length<=wq u:=by
 have h:∀l:List Bs,l.length<=pl l:=by
  intro l
  induction l with
  | nil=>simp
  | cons p r ih=>
    have h1:=pl_app [p] r;rw[pl_one]at h1;rw[show p::r=[p]++r from rfl,h1]
    simp;omega
 have:=h u.path;unfold wq wt;omega
def betterP (s:Bs):List Bs:=if s=httpS then[httpsS]else if s=wsS then[wssS,httpS,httpsS]else if s=wssS then[httpsS]else[]
def schemeM (p u:Bs):Bool:=p==u||(betterP p).contains u
def webP (s:Bs):Bool:=s==httpS||s==httpsS
def loopS:Bs:=[49,50,55,46,48,46,48,46,49]
def selfS:Bs:=[115,101,108,102]
def noneS:Bs:=[39,110,111,110,101,39]
def nullS:Bs:=[110,117,108,108]
def hostM (x:Src) (name:Bs):Bool:=
 if x.wild then x.host==[]||Lib.hasSuffix name (46::x.host)
 else if x.host != loopS&&ipP x.host then false else x.host==name
def effP (u:UrlL):Int:=if 0<=u.port then u.port else defP u.scheme
def portM (x:Src) (u:UrlL):Bool:=if x.port= -2 then true else if x.port= -1 then decide (u.port<0)||u.port==defP u.scheme else x.port==effP u
def pathM (p u:Bs):Bool:=
 if p=[]\/(p=[47]/\u=[])then true
 else if Lib.hasSuffix p [47]=true/\(splitC 47 p).length<=(splitC 47 u).length then(splitC 47 p).dropLast.map decodeP==((splitC 47 u).take ((splitC 47 p).length-1)).map decodeP
 else(splitC 47 p).map decodeP==(splitC 47 u).map decodeP
def pathTM (u:UrlL):Bs:=if u.opq then u.path.flatten else u.path.flatMap fun p=>47::p
def hostedM (u:UrlL) (x:Src) (own:UrlL) (red:Bool):Bool:=
 u.hasHost&&(u.host != []&&(schemeM (if x.scheme=[]then own.scheme else x.scheme) u.scheme&&(hostM x u.host&&(portM x u&&(red||pathM x.path (pathTM u))))))
def alikeM (u own:UrlL):Bool:=u.port==own.port||(effP u==defP u.scheme&&effP own==defP own.scheme)
def saferM (u own:UrlL):Bool:=u.scheme==httpsS||(u.scheme==wssS||(own.scheme==httpS&&u.scheme==wsS))
def selfM (u own:UrlL):Bool:=
 (originU own != nullS&&originU own==originU u)||(u.hasHost&&(own.hasHost&&(u.host==own.host&&(alikeM u own&&saferM u own))))
def everyS:Src:=⟨3,[],0,[],[],true,-1,[]⟩
def oneM (u:UrlL) (x:Src) (own:UrlL) (red:Bool):Bool:=
 if x.kind=1 then x.text==selfS&&selfM u own
 else if x.kind=2 then schemeM x.scheme u.scheme
 else if x.kind=3 then(if x=everyS then webP u.scheme||u.scheme==own.scheme else hostedM u x own red)
 else false
def noneM (l:List Bs):Bool:=l.isEmpty||(l.length==1&&low (l.headD [])==noneS)
def listS (l:List Bs):List Src:=l.filterMap parseS
def anyM (u:UrlL) (l:List Bs) (own:UrlL) (red:Bool):Bool:= !noneM l&&(listS l).any fun x=>oneM u x own red
def askedM (s v:Bs):Bool:=
 match parseU [104,116,116,112,115,58,47,47,97,46,98,47] none,parseU s none with
 | .ok own,.ok u=>anyM u [v] own false
 | _,_=>false
end Lz
namespace Go.Proofs
open Go.Shelf
def Tryz.lays100_ren:Go.Shelf.Ren:=⟨fun|100=>23|207=>47|n=>n,fun|9=>9|4=>4|3=>3|n=>n,fun|n=>n⟩
theorem Tryz.lays100:Go.Proofs.Lays.n100 Tryz.prog Tryz.lays100_ren:=by repeat' first |kernel_rfl|(intro w;rfl)|(intro w;kernel_rfl)|decide|constructor
open Go.RowKit Go.Lib in
theorem Tryz.strings_HasSuffix (s p:ByteArray) (w:World) (hs:s.size<=9223372036854775807):
 Calls Tryz.prog 23 #[.string s,.string p] w fun e w'=>e=.returned (.bool (Lib.hasSuffix s.data.toList p.data.toList))/\w'=w:=Any.strings_HasSuffix Tryz.lays100 s p w hs
open Go.Lib in
theorem Tryz.slices_Contains_string_empty (a:Option Addr) (c:Nat) (x:ByteArray) (w:World):
 Calls Tryz.prog 21 #[.slice a 0 c,.string x] w fun e w'=>e=.returned (.bool false)/\w'=w:=Any.slices_Contains_string_empty Tryz.lays110 a c x w
end Go.Proofs
namespace Lz
open Go
def erQ:UR->Prop
 | .ok _=>True
 | .er n=>n=70\/n=71\/n=72\/n=81\/n=82
theorem erQ_bind {r:UR} {f:UrlL->UR} (h:erQ r) (hf:∀u,erQ (f u)):erQ (r.bind f):=by
 cases r with
 | ok u=>exact hf u
 | er n=>exact h
theorem erQ_host (u:UrlL) (s:Bs):erQ (hostU u s):=by
 unfold hostU;split
 ·rename_i n e;cases hsp:specP u.scheme with
  | true=>rw[hsp]at e;rcases host_err_true _ _ e with h|h|h<;>simp[erQ,h]
  | false=>rw[hsp]at e;rcases host_err_false _ _ e with h|h<;>simp[erQ,h]
 ·trivial
theorem erQ_port (u:UrlL) (s:Bs):erQ (portU u s):=by
 unfold portU;split
 ·simp[erQ]
 ·split<;>simp[erQ]
theorem erQ_place (u:UrlL) (a:Bs):erQ (placeU u a):=by
 unfold placeU;split
 ·split
  ·simp[erQ]
  ·exact erQ_bind (erQ_host _ _) fun u=>erQ_port _ _
 ·split
  ·simp[erQ]
  ·exact erQ_bind (erQ_host _ _) fun u=>erQ_port _ _
theorem erQ_auth (u:UrlL) (a:Bs):erQ (authU u a):=by
 unfold authU;split
 ·split
  ·simp[erQ]
  ·exact erQ_place _ _
 ·exact erQ_place _ _
theorem erQ_hosted (u:UrlL) (r:Bs):erQ (hostedU u r):=erQ_bind (erQ_auth _ _) fun _=>trivial
theorem erQ_rel (u b:UrlL) (r:Bs):erQ (relU u b r):=by
 unfold relU;simp only;split
 ·exact erQ_hosted _ _
 ·split<;>trivial
theorem erQ_files (u:UrlL) (b:Option UrlL) (r:Bs):erQ (filesU u b r):=by
 unfold filesU;simp only;split
 ·split
  ·trivial
  ·refine erQ_bind ?_ fun _=>trivial;split
   ·trivial
   ·exact erQ_host _ _
 ·split
  ·trivial
  ·split
   ·split
    ·split<;>trivial
    ·trivial
   ·trivial
theorem erQ_main (u:UrlL) (s:Bs) (b:Option UrlL):erQ (mainU u s b):=by
 unfold mainU;simp only;split
 ·split
  ·exact erQ_files _ _ _
  ·split
   ·split
    ·split
     ·exact erQ_rel _ _ _
     ·exact erQ_hosted _ _
    ·exact erQ_hosted _ _
   ·split
    ·exact erQ_hosted _ _
    ·split<;>trivial
 ·split
  ·simp[erQ]
  ·split
   ·simp[erQ]
   ·split
    ·trivial
    ·split
     ·exact erQ_files _ _ _
     ·exact erQ_rel _ _ _
theorem readU_err {s:Bs} {b:Option UrlL} {n:Nat} (e:readU s b=.er n):n=70\/n=71\/n=72\/n=81\/n=82:=by
 have h:erQ (readU s b):=erQ_bind (erQ_main _ _ _) fun _=>trivial;rw[e]at h;exact h
def ltQ (c:UInt8):Bool:=97<=c&&c<=122
theorem ltQ_plain:∀c:UInt8,ltQ c=true->plainQ c=true/\c≠64/\c≠58/\c≠91/\c≠93/\c≠46/\slashQ true c=false/\oddB c=false/\low1 c=c/\encodeP (setU 4) [c]=[c]/\c≠37:=byte_all (by decide +kernel)
structure HostW (h:Bs):Prop where
 some:h≠[]
 low:∀c∈h,ltQ c=true
def hostX (h:Bs):Bs:=h++[46,120]
theorem hostX_ok {h:Bs} (H:HostW h):hostPr (hostX h) true=.ok (hostX h):=by
 refine dom_again ⟨by simp[hostX],?_,?_,Or.inl ?_⟩ true
 ·rw[List.any_eq_false];intro c hc;rcases List.mem_append.1 hc with hc|hc
  ·rw[(ltQ_plain c (H.low c hc)).2.2.2.2.2.2.2.1];simp
  ·have q:∀c∈([46,120]:Bs),oddB c=false:=by decide
   rw[q c hc];simp
 ·unfold hostX low;rw[List.map_append];congr 1
  conv=>rhs;rw[<-List.map_id h]
  exact List.map_congr_left fun c hc=>(ltQ_plain c (H.low c hc)).2.2.2.2.2.2.2.2.1
 ·have hs:splitC 46 (hostX h)=[h,[120]]:=by
   unfold hostX;rw[splitC_at [120] (fun x hx=>(ltQ_plain x (H.low x hx)).2.2.2.2.2.1)];rfl
  unfold numberedP labelsP;rw[hs,if_neg (by simp)];show(allB isDigit [120]||(numP [120]).isSome)=false;decide +kernel
def selfX (k:Nat) (h:Bs) (n:Nat) (r:Bs):Bs:=schemeAt k++[58,47,47]++hostX h++[58]++Lib.decDigits n++[47]++r
theorem selfX_eq (k:Nat) (h:Bs) (n:Nat) (r:Bs):selfX k h n r=schemeAt k++58::47::47::((hostX h++58::Lib.decDigits n)++47::r):=by
 simp[selfX]
def selfV (k:Nat) (h:Bs) (n:Nat) (r:Bs):UrlL:={scheme:=schemeAt k,hasHost:=true,host:=hostX h,port:=if n=ownAt k then -1 else(n:Int),path:=[r]}
theorem self_place (k n:Nat) (hk:k<5) (hn:n<65536) {h:Bs} (H:HostW h):
  authU {scheme:=schemeAt k} (hostX h++58::Lib.decDigits n)=.ok {selfV k h n []with path:=[]}:=by
 have hx:∀c∈hostX h,c≠64/\c≠58/\c≠91/\c≠93:=by
  intro c hc;rcases List.mem_append.1 hc with hc|hc
  ·have:=ltQ_plain c (H.low c hc);exact⟨this.2.1,this.2.2.1,this.2.2.2.1,this.2.2.2.2.1⟩
  ·have q:∀c∈([46,120]:Bs),c≠64/\c≠58/\c≠91/\c≠93:=by decide
   exact q c hc
 have h64:(64:UInt8)∉(hostX h++58::Lib.decDigits n:Bs):=by
  intro hm;rcases List.mem_append.1 hm with hm|hm
  ·exact(hx 64 hm).1 rfl
  ·rcases List.mem_cons.1 hm with hm|hm
   ·cases hm
   ·exact(digit_plain 64 (dec_digit n 64 hm)).2.1 rfl
 unfold authU;rw[lastAt_no h64];simp only;unfold placeU;rw[colonP_at _ (fun c hc=>(hx c hc).2)];simp only;rw[List.take_left' rfl,if_neg (by simp[hostX]),show(hostX h++58::Lib.decDigits n:Bs).drop ((hostX h).length+1)=Lib.decDigits n from by rw[<-List.drop_drop,List.drop_left' rfl];rfl];unfold hostU;simp only[scheme_spec k hk,hostX_ok H];show portU _ _=_;unfold portU;rw[portN_dec n (by omega)];simp only;rw[if_neg (by omega),scheme_def k hk];have hd:Lib.decDigits n≠[]:=by rw[Lib.decDigits];split<;>simp
 by_cases ho:n=ownAt k
 ·rw[if_neg (by rw[ho];simp)]
  simp[selfV,ho]
 ·rw[if_pos ⟨hd,by omega⟩]
  simp[selfV,ho]
theorem self_read (k n:Nat) (hk:k<5) (hn:n<65536) {h:Bs} (H:HostW h) {r:Bs} (hr:r=[]\/∃c,ltQ c=true/\r=[c]):readU (selfX k h n r) none=.ok (selfV k h n r):=by
 have hdig:∀c∈Lib.decDigits n,plainQ c=true/\c≠64/\slashQ true c=false:=fun c hc=>digit_plain c (dec_digit n c hc)
 have hxs:∀c∈hostX h,plainQ c=true/\slashQ true c=false:=by
  intro c hc;rcases List.mem_append.1 hc with hc|hc
  ·have:=ltQ_plain c (H.low c hc);exact⟨this.1,this.2.2.2.2.2.2.1⟩
  ·have q:∀c∈([46,120]:Bs),plainQ c=true/\slashQ true c=false:=by decide
   exact q c hc
 have hrp:r.all plainQ=true:=by
  rcases hr with rfl|⟨c,hc,rfl⟩
  ·rfl
  ·simp[(ltQ_plain c hc).1]
 have hp:(selfX k h n r).all plainQ=true:=by
  unfold selfX;simp only[List.all_append];rw[scheme_plain k hk,hrp,List.all_eq_true.2 (fun c hc=>(hdig c hc).1),List.all_eq_true.2 (fun c hc=>(hxs c hc).1)];rfl
 rw[read_plain hp,selfX_eq,main_special k hk _ (by
  intro c hc;have hne:hostX h≠[]:=by simp[hostX]
  cases hx:hostX h with
  | nil=>exact absurd hx hne
  | cons a t=>
    rw[hx]at hc;cases hc;exact(hxs c (by rw[hx];simp)).2)]
 unfold hostedU;simp only[scheme_spec k hk]
 rw[cutS_at r (by
  intro c hc;rcases List.mem_append.1 hc with hc|hc
  ·exact(hxs c hc).2
  ·rcases List.mem_cons.1 hc with rfl|hc
   ·rfl
   ·exact(hdig c hc).2.2)]
 simp only[self_place k n hk hn H]
 have hon:onP {selfV k h n []with path:=[]} r=selfV k h n r:=by
  unfold onP
  have hsp:splitS (specP (schemeAt k)) r=[r]:=by
   rw[scheme_spec k hk];rcases hr with rfl|⟨c,hc,rfl⟩
   ·rfl
   ·simp[splitS,(ltQ_plain c hc).2.2.2.2.2.2.1]
  have hd0:encodeP (setU 4) r=r/\dotsP r=0:=by
   rcases hr with rfl|⟨c,hc,rfl⟩
   ·exact⟨by decide +kernel,by decide +kernel⟩
   ·refine⟨(ltQ_plain c hc).2.2.2.2.2.2.2.2.2.1,?_⟩;exact(byte_all (p:=fun c=>ltQ c=true->dotsP [c]=0) (by decide +kernel) c) hc
  show{selfV k h n []with path:=onL (schemeAt k) [] (splitS (specP (schemeAt k)) r)}=_;rw[hsp];unfold onL;simp only[hd0.1,hd0.2];rw[if_neg (by decide),if_neg (by decide),if_neg (fun hh=>scheme_file k hk hh.1)];rfl
 show(UR.ok (onP {selfV k h n []with path:=[]} r)).bind finU=_;rw[hon];show finU (selfV k h n r)=_;unfold finU;simp only[selfV];rfl
theorem self_parse (k n:Nat) (hk:k<5) (hn:n<65536) {h:Bs} (H:HostW h) (hl:h.length<=1000) {r:Bs} (hr:r=[]\/∃c,ltQ c=true/\r=[c]):parseU (selfX k h n r) none=.ok (selfV k h n r):=by
 unfold parseU;rw[if_neg]
 ·exact self_read k n hk hn H hr
 ·have h1:=scheme_len k hk
  have h2:(Lib.decDigits n).length<=5:=by
   have:∀(k m:Nat),m<10^(k+1)->(Lib.decDigits m).length<=k+1:=by
    intro k
    induction k with
    | zero=>intro m h;rw[Lib.decDigits,dif_pos (by simpa using h)];simp
    | succ k ih=>
      intro m h;rw[Lib.decDigits];split
      ·simp
      ·have:=ih (m / 10) (by rw[Nat.pow_succ]at h;omega)
       simp;omega
   exact this 4 n (by omega)
  have h3:r.length<=1:=by rcases hr with rfl|⟨c,_,rfl⟩<;>simp
  unfold selfX hostX
  simp
  omega
def selfVal:Bs:=[39,115,101,108,102,39]
theorem list_self:listS [selfVal]=[keyS selfS]:=by decide +kernel
theorem any_self (u own:UrlL) (r:Bool):anyM u [selfVal] own r=selfM u own:=by
 have hn:noneM [selfVal]=false:=by decide +kernel
 unfold anyM;rw[list_self,hn]
 simp[oneM,keyS]
def portS (k n:Nat):Bs:=if n=ownAt k then[]else 58::Lib.decDigits n
theorem self_origin (k n:Nat) (hk:k<5) (h r:Bs):originU (selfV k h n r)=schemeAt k++[58,47,47]++(hostX h++portS k n):=by
 unfold originU
 have hd:defP (selfV k h n r).scheme≠ -1:=by
  show defP (schemeAt k)≠ -1;rw[scheme_def k hk];omega
 rw[if_pos hd];unfold atU portS;by_cases h:n=ownAt k
 ·simp[selfV,h]
 ·have:¬((n:Int)= -1):=by omega
  simp[selfV,h,itoa_nat]
theorem https_null (s:Bs):(schemeAt 1++[58,47,47]++s != nullS)=true:=by
 rw[bne_iff_ne];intro h;cases h
theorem self_own (n:Nat) (h r:Bs):selfM (selfV 1 h n r) (selfV 1 h n [])=true:=by
 unfold selfM;rw[self_origin 1 n (by omega),self_origin 1 n (by omega),https_null]
 simp
theorem self_other (n:Nat) (t r:Bs):selfM (selfV 1 (122::104::t) n r) (selfV 1 (104::t) n [])=false:=by
 unfold selfM;rw[self_origin 1 n (by omega),self_origin 1 n (by omega)]
 have h1:(schemeAt 1++[58,47,47]++(hostX (104::t)++portS 1 n)==schemeAt 1++[58,47,47]++(hostX (122::104::t)++portS 1 n))=false:=by
  rw[beq_eq_false_iff_ne];intro h;have:=List.append_cancel_left h
  simp[hostX]at this
 have h2:((selfV 1 (122::104::t) n r).host==(selfV 1 (104::t) n []).host)=false:=by
  rw[beq_eq_false_iff_ne];intro h
  simp[selfV,hostX]at h
 rw[h1,h2]
 simp
theorem eff_self (k n:Nat) (hk:k<5) (h r:Bs):effP (selfV k h n r)=n:=by
 unfold effP selfV;simp only;by_cases ho:n=ownAt k
 ·rw[if_pos ho,if_neg (by omega),scheme_def k hk,ho]
 ·rw[if_neg ho,if_pos (by omega)]
theorem self_port (n m:Nat) (hn:n<65536) (hm:m<65536) (h r:Bs):selfM (selfV 1 h m r) (selfV 1 h n [])=decide (n=m):=by
 by_cases e:n=m
 ·subst e;rw[self_own];simp
 ·have h1:(schemeAt 1++[58,47,47]++(hostX h++portS 1 n)==schemeAt 1++[58,47,47]++(hostX h++portS 1 m))=false:=by
   rw[beq_eq_false_iff_ne];intro hh;have hh:=List.append_cancel_left (List.append_cancel_left hh);unfold portS at hh;split at hh
   ·rename_i a;split at hh
    ·rename_i b;exact e (by rw[a,b])
    ·cases hh
   ·split at hh
    ·cases hh
    ·injection hh with _ hh
     have i2:=congrArg (portN 0) hh;rw[portN_dec n (by omega),portN_dec m (by omega)]at i2;exact e (Option.some.inj i2)
  have h2:alikeM (selfV 1 h m r) (selfV 1 h n [])=false:=by
   unfold alikeM;rw[eff_self 1 m (by omega),eff_self 1 n (by omega)];have hd:defP (selfV 1 h m r).scheme=443:=rfl;have hd':defP (selfV 1 h n []).scheme=443:=rfl;rw[hd,hd']
   have a1:((selfV 1 h m r).port==(selfV 1 h n []).port)=false:=by
    rw[beq_eq_false_iff_ne];show(if m=443 then(-1:Int)else(m:Int))≠if n=443 then(-1:Int)else(n:Int);split<;>split<;>omega
   have a2:(((m:Int)==443)&&((n:Int)==443))=false:=by
    rw[Bool.and_eq_false_iff,beq_eq_false_iff_ne,beq_eq_false_iff_ne];omega
   rw[a1,a2];rfl
  unfold selfM;rw[self_origin 1 n (by omega),self_origin 1 m (by omega),h1,h2,decide_eq_false e]
  simp
theorem self_plain (n:Nat) (h r:Bs):selfM (selfV 0 h n r) (selfV 1 h n [])=false:=by
 have h1:(schemeAt 1++[58,47,47]++(hostX h++portS 1 n)==schemeAt 0++[58,47,47]++(hostX h++portS 0 n))=false:=by
  rw[beq_eq_false_iff_ne];intro hh;have e1:schemeAt 1=[104,116,116,112,115]:=rfl;have e0:schemeAt 0=[104,116,116,112]:=rfl;rw[e1,e0]at hh
  simp at hh
 have h2:saferM (selfV 0 h n r) (selfV 1 h n [])=false:=by
  unfold saferM;show(schemeAt 0==httpsS||(schemeAt 0==wssS||(schemeAt 1==httpS&&schemeAt 0==wsS)))=false;decide
 unfold selfM;rw[self_origin 1 n (by omega),self_origin 0 n (by omega),h1,h2]
 simp
end Lz
