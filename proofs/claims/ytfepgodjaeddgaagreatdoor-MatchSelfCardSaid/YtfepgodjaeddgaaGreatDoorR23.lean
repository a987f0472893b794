/-
  strings.IndexRune at a rune beyond 127 in a text of bytes below 128; strings.IndexAny and ContainsAny of any text, at such bytes.
-/
import Derived.Test.YtfepgodjaeddgaaGreatDoorR21
import Derived.Lib.QuoteLoop
set_option maxHeartbeats 2000000
set_option maxRecDepth 1000000
namespace Lz
open Go
theorem get_nat (s:ByteArray) (j:Nat) (h:j<s.size):(s.get! j).toNat=(s[j]'h).toNat:=by
 congr 1;show s.data[j]! =_;rw[getElem!_pos s.data j h];rfl
theorem hi_bytes (s:ByteArray) (pos:Nat) (h:pos<s.size) (hb:128<=(s[pos]'h).toNat) (j:Nat) (h1:pos<=j) (h2:j<pos+(Utf8.decode s pos).2) (hj:j<s.size):128<=(s[j]'hj).toNat:=by
 rw[Lib.decode_at]at h2;have e0:=get_nat s pos h;by_cases hp:j=pos
 ·subst hp;exact hb
 rcases Lib.decodeN_shape (s.size-pos) (s.get! pos).toNat (s.get! (pos+1)).toNat (s.get! (pos+2)).toNat (s.get! (pos+3)).toNat with⟨h3,_⟩|⟨_,hn,c1,_,h3⟩|⟨_,hn,c1,c2,_,_,h3⟩|⟨_,hn,c1,c2,c3,_,_,h3⟩|h3
 ·omega
 ·rw[h3]at h2;simp only at h2;obtain rfl:j=pos+1:=by omega
  have:=get_nat s (pos+1) hj;omega
 ·rw[h3]at h2;simp only at h2;obtain rfl|rfl:j=pos+1\/j=pos+2:=by omega
  ·have:=get_nat s (pos+1) hj;omega
  ·have:=get_nat s (pos+2) hj;omega
 ·rw[h3]at h2;simp only at h2;obtain rfl|rfl|rfl:j=pos+1\/j=pos+2\/j=pos+3:=by omega
  ·have:=get_nat s (pos+1) hj;omega
  ·have:=get_nat s (pos+2) hj;omega
  ·have:=get_nat s (pos+3) hj;omega
 ·rw[h3]at h2;simp only at h2;omega
theorem rune_valid (s:ByteArray) (pos:Nat):Utf8.valid ((Utf8.decode s pos).1:Int)=true:=by
 have hlt:(s.get! pos).toNat<256:=(s.get! pos).toNat_lt;have:=Lib.decodeN_valid (s.size-pos) (s.get! pos).toNat (s.get! (pos+1)).toNat (s.get! (pos+2)).toNat (s.get! (pos+3)).toNat hlt;rw[<-Lib.decode_at]at this;rw[validRune_eq];unfold validRune;rw[decide_eq_true_eq];omega
theorem any_skip (q:UInt8->Bool) (l:Bs) (pos:Nat):∀k,(∀j b,pos<=j->j<pos+k->l[j]? =some b->q b=false)->(l.drop pos).any q=(l.drop (pos+k)).any q
 | 0,_=>rfl
 | k+1,h=>by
   rw[any_skip q l pos k fun j b h1 h2 hj=>h j b h1 (by omega) hj];by_cases hl:pos+k<l.length
   ·rw[List.drop_eq_getElem_cons hl,List.any_cons,h (pos+k) l[pos+k] (by omega) (by omega) (List.getElem?_eq_getElem hl)];rfl
   ·rw[List.drop_eq_nil_of_le (by omega),List.drop_eq_nil_of_le (by omega)]
end Lz
namespace Go.Proofs.YtfepgodjaeddgaaGreatDoor
open Go.RowKit
theorem IndexRune_err (ch:ByteArray) (ha:∀c∈ch.data.toList,c.toNat<128) (w:World):Calls Tryz.prog 194 #[.string ch,.int .i32 65533] w (RInt (-1) w):=by
 have Ha:=Ih ha;clear ha;go_enter Tryz.func194,Tryz.ntmps194
 go_wp2
 go_loopg [] ch.size (fun gf wx=>∃pos:Nat,wx.heap[w.heap.size]? =some (.stringIter ch pos)/\Below w.heap.size w wx/\ch.size<=pos+gf)
 case atStart=>exact⟨0,World.iter_heap w ch 0,(Below.refl _ w).alloc (Nat.le_refl _) _,by omega⟩
 case round=>
  obtain⟨pos,hit,hbw,hfu⟩:=hrel;by_cases hps:pos<ch.size
  ·obtain⟨g',rfl⟩:∃g',gk=g'+1:=⟨gk-1,by omega⟩;have hnx:∀ty,(Instr.next (.pointer (some ⟨w.heap.size,0,none⟩)) true ty).run Tryz.prog wr=_:=fun ty=>Lib.run_next_any_at wr w.heap.size ch pos ty hit hps;have h128:(ch[pos]'hps).toNat<128:=Ha.out _ (by rw[List.mem_iff_getElem?];exact⟨pos,get_of_lt hps⟩);rw[decode_ascii ch pos hps h128]at hnx;have hit2:=Lib.iterAt_heap wr w.heap.size ch pos (pos+1) hit;have hbw2:=Lib.below_iterAt hbw (k:=w.heap.size) (Nat.le_refl _) ch (pos+1);generalize wr.iterAt w.heap.size ch (pos+1)=W at hnx hit2 hbw2;have hne:(((ch[pos]'hps).toNat:Int)==65533)=false:=beq_eq_false_iff_ne.2 (by omega);generalize (ch[pos]'hps).toNat=R at hnx hne;clear h128
   go_wp2
   go_roundg g'
   case measure=>omega
   case rel=>exact⟨pos+1,hit2,hbw2,by omega⟩
  ·have hnx:∀ty,(Instr.next (.pointer (some ⟨w.heap.size,0,none⟩)) true ty).run Tryz.prog wr=_:=fun ty=>Lib.run_next_end_at wr w.heap.size ch pos ty hit hps
   go_wp2
   go_ret;exact⟨rfl,hbw⟩
theorem ValidRune_c (r:Int) (w:World):Calls Tryz.prog 226 #[.int .i32 r] w fun e w'=>e=.returned (.bool (Lib.validRune r))/\w=w':=(Tryz.utf8_ValidRune r w).mono fun _ _ ⟨h1,h2⟩=>⟨h1,h2.symm⟩
theorem indexByte_none (ch:ByteArray) (a b:Nat) (ha:∀c∈ch.data.toList,c.toNat<128) (c:UInt8) (hc:128<=c.toNat):Lib.indexByte (ch.extract a b).data.toList c= -1:=by
 apply Lz.indexByte_absent
 intro h;have:=ha c (mem_extract h);omega
theorem IndexRune_val (ch:ByteArray) (ha:∀c∈ch.data.toList,c.toNat<128) (r:Int) (h128:128<=r) (hr:Utf8.valid r=true) (hne:r≠65533) (w:World):Calls Tryz.prog 194 #[.string ch,.int .i32 r] w (RInt (-1) w):=by
 have hv:Lib.validRune r=true:=by
  show validRune r=true;rw[<-validRune_eq];exact hr
 obtain⟨hf1,hf2,hf3⟩:=encode_facts r hr h128;have hneb:(r==65533)=false:=beq_eq_false_iff_ne.2 hne;have hr0:(0:Int)<=r:=by omega
 have hr1:¬r<128:=by omega
 have hr1b:decide (r<128)=false:=decide_eq_false hr1;have cV:=ValidRune_c r w;rw[hv]at cV;have CV:=Ih cV;have Ha:=Ih ha;clear cV hv hr hne ha;have hcv:∀W,(convert 21 9 (.int .i32 r)).run Tryz.prog W=.ok (.string (Utf8.encode r)) W:=fun W=>run_convert_int_string W 21 9 .i32 r (by rw[Tryz.underlying21];rfl) Tryz.underlying9;generalize Utf8.encode r=rs at hf1 hf2 hf3 hcv;obtain⟨k,hk⟩:∃k,k=rs.size-1:=⟨_,rfl⟩;have hkl:k<rs.size:=by omega
 have hkI:(rs.size:Int)-1=(k:Int):=by omega
 have hk3:k<=3:=by omega
 have h8:128<=(rs[k]'hkl).toNat:=by subst hk;exact hf3 hkl
 clear hk hf1 hf2 hf3;have hk0:(0:Int)<=(k:Int):=by omega
 have hkr:(k:Int)<(rs.size:Int):=by omega
 go_enter Tryz.func194,Tryz.ntmps194
 go_wp2_with fail
 refine(CV.out).mono ?_;rintro e w' ⟨rfl,rfl⟩;by_cases hkc:k<ch.size
 ·have hkc1:(k:Int)<(ch.size:Int):=by omega
  have hnb:(((ch[k]'hkc).toNat:Int) != ((rs[k]'hkl).toNat:Int))=true:=by
   have:=Ha.out (ch[k]'hkc) (by rw[List.mem_iff_getElem?];exact⟨k,get_of_lt hkc⟩)
   simp;omega
  have hib:=indexByte_none ch (k+1) ch.size Ha.out (rs[k]'hkl) h8;have cI:=fun W=>IndexByte_c (ch.extract (k+1) ch.size) (rs[k]'hkl) W;rw[hib]at cI;have CI:∀W,Calls Tryz.prog 105 #[.string (ch.extract (k+1) ch.size),.int .u8 ((rs[k]'hkl).toNat:Int)] W fun e w'=>e=.returned (.int .i64 (-1))/\w'=W:=fun W=>(cI W).mono fun _ _ ⟨h1,h2⟩=>⟨h1,h2.symm⟩;have hw1:IntKind.i64.wrap ((k:Int)+1)=(k:Int)+1:=IntWalk.i64_in _ (by omega);have hk1:(0:Int)<=(k:Int)+1:=by omega
  have hk2:(k:Int)+1<=(ch.size:Int):=by omega
  have hk4:((k:Int)+1).toNat=k+1:=by omega
  have HCI:=Ih CI;clear CI cI hib h8
  go_wp2_with fail
  go_step3
  go_wp2_with fail
  refine wp_loop_rounds 1 ?_;rw[rounds_succ]
  go_wp2_with fail
  go_step3
  go_wp2_with fail
  go_quiet (fail)
  have hb1:Below w.heap.size w (w.drewN nq):=below_drewN (Below.refl _ w) nq;generalize w.drewN nq=wa at hb1⊢
  go_wp2_with fail
  go_quiet ((go_at_call 105;exact Calls.quiet_of_same (HCI.out _)))
  go_wp2
  rw[Exit.noGoto_ret];go_ret;exact⟨rfl,below_drewN hb1 _⟩
 ·have hkc1:¬(k:Int)<(ch.size:Int):=by omega
  clear h8
  go_wp2_with fail
  go_step3
  go_wp2_with fail
  refine wp_loop_rounds 1 ?_;rw[rounds_succ]
  go_wp2
  first |rw[Exit.noGoto_ret]|skip
  go_ret;exact⟨rfl,Below.refl _ _⟩
theorem indexByte_mem (c:UInt8):∀l:List UInt8,decide (0<=Lib.indexByte l c)=l.contains c
 | []=>rfl
 | b::l=>by
   have ih:=indexByte_mem c l;have hge:=Lib.indexByte_ge l c;rw[Lib.indexByte,List.contains_cons,<-ih];by_cases h:b=c
   ·subst h;simp
   ·have h1:(b==c)=false:=beq_eq_false_iff_ne.2 h;have h2:(c==b)=false:=beq_eq_false_iff_ne.2 fun e=>h e.symm;rw[h1,h2,Bool.false_or,if_neg (by simp),Bool.eq_iff_iff,decide_eq_true_eq,decide_eq_true_eq];by_cases h3:Lib.indexByte l c= -1
    ·rw[h3];simp
    ·rw[if_neg (by simpa using h3)];omega
theorem IndexRune_asc (ch:ByteArray) (ha:∀c∈ch.data.toList,c.toNat<128) (r:Nat) (hr:Utf8.valid (r:Int)=true) (w:World):
  Calls Tryz.prog 194 #[.string ch,.int .i32 (r:Int)] w fun e w'=>∃i:Int,e=.returned (.int .i64 i)/\Hid (decide (0<=i)=(decide (r<128)&&ch.data.toList.contains (UInt8.ofNat r)))/\Below w.heap.size w w':=by
 rcases Nat.lt_or_ge r 128 with h|h
 ·refine(Tryz.strings_IndexRune_ascii ch (r:Int) w (by omega) (by omega)).mono ?_;rintro e w' ⟨he,rfl⟩;refine⟨_,he,Ih ?_,Below.refl _ _⟩;rw[show((r:Int)).toNat.toUInt8=UInt8.ofNat r from rfl,decide_eq_true h,Bool.true_and];exact indexByte_mem _ _
 ·by_cases h2:r=65533
  ·subst h2;refine(IndexRune_err ch ha w).mono ?_;rintro e w' ⟨he,hb⟩;exact⟨-1,he,Ih (by rfl),hb⟩
  ·refine(IndexRune_val ch ha (r:Int) (by omega) hr (by omega) w).mono ?_;rintro e w' ⟨he,hb⟩;exact⟨-1,he,Ih (by rw[decide_eq_false (show ¬r<128 by omega)];rfl),hb⟩
theorem IndexAny_few (s ch:ByteArray) (h8:s.size<=8) (h2:2<=ch.size) (ha:∀c∈ch.data.toList,c.toNat<128) (w:World):
  Calls Tryz.prog 195 #[.string s,.string ch] w fun e w'=>∃i:Int,e=.returned (.int .i64 i)/\Hid (decide (0<=i)=s.data.toList.any ch.data.toList.contains)/\Below w.heap.size w w':=by
 have he:=isEmpty_of_pos (s:=ch) (by omega);have hc1:((ch.size:Int)==1)=false:=beq_eq_false_iff_ne.2 (by omega);have cU:=fun W=>Tryz.strings_shouldUseASCIISet (s.size:Int) W;rw[decide_eq_false (show ¬(8:Int)<(s.size:Int) by omega)]at cU;have CU:=Ih fun W=>(cU W).mono fun _ _ (h:_/\_)=>(⟨h.1,h.2.symm⟩:_/\W=_);have Ha:=Ih ha;clear cU ha;go_enter Tryz.func195,Tryz.ntmps195
 go_wp2_with fail
 refine(CU.out _).mono ?_;rintro e w' ⟨rfl,rfl⟩
 go_wp2
 go_loopg [] s.size (fun gf wx=>∃pos:Nat,wx.heap[w.heap.size]? =some (.stringIter s pos)/\Below w.heap.size w wx/\s.size<=pos+gf/\Hid (s.data.toList.any ch.data.toList.contains=(s.data.toList.drop pos).any ch.data.toList.contains))
 case atStart=>exact⟨0,World.iter_heap w s 0,(Below.refl _ w).alloc (Nat.le_refl _) _,by omega,Ih (by rw[List.drop_zero])⟩
 case round=>
  obtain⟨pos,hit,hbw,hfu,hS⟩:=hrel;by_cases hps:pos<s.size
  ·obtain⟨g',rfl⟩:∃g',gk=g'+1:=⟨gk-1,by omega⟩;have hnx:∀ty,(Instr.next (.pointer (some ⟨w.heap.size,0,none⟩)) true ty).run Tryz.prog wr=_:=fun ty=>Lib.run_next_any_at wr w.heap.size s pos ty hit hps;have hwd:=Lib.width_pos s pos;have hval:=Lz.rune_valid s pos
   have hstep:Hid ((s.data.toList.drop pos).any ch.data.toList.contains=((decide ((Utf8.decode s pos).1<128)&&ch.data.toList.contains (UInt8.ofNat (Utf8.decode s pos).1))||(s.data.toList.drop (pos+(Utf8.decode s pos).2)).any ch.data.toList.contains)):=by
    show _=_;rcases Nat.lt_or_ge (s[pos]'hps).toNat 128 with h1|h1
    ·rw[decode_ascii s pos hps h1]
     have hd:s.data.toList.drop pos=s[pos]::s.data.toList.drop (pos+1):=by
      rw[List.drop_eq_getElem_cons (show pos<s.data.toList.length from hps)];rfl
     rw[hd,List.any_cons,decide_eq_true h1]
     simp
    ·have hr:=Lz.rune_hi s pos hps h1;rw[decide_eq_false (by omega),Bool.false_and,Bool.false_or];refine Lz.any_skip _ _ _ _ ?_;intro j b h3 h4 hj;have hjl:j<s.size:=by rw[<-len_of_size];exact(List.getElem?_eq_some_iff.1 hj).1
     have h5:=Lz.hi_bytes s pos hps h1 j h3 h4 hjl;rw[get_of_lt hjl]at hj;rw[Option.some.inj hj]at h5;rw[Bool.eq_false_iff];intro hm;have:=Ha.out b (List.contains_iff_mem.1 hm);omega
   generalize hR:(Utf8.decode s pos).1=R at hnx hval hstep;generalize hK:(Utf8.decode s pos).2=K at hnx hwd hstep;clear hR hK;have hit2:=Lib.iterAt_heap wr w.heap.size s pos (pos+K) hit;have hbw2:=Lib.below_iterAt hbw (k:=w.heap.size) (Nat.le_refl _) s (pos+K);have hlw:w.heap.size<(wr.iterAt w.heap.size s (pos+K)).heap.size:=(Array.getElem?_eq_some_iff.1 hit2).1;generalize wr.iterAt w.heap.size s (pos+K)=W at hnx hit2 hbw2 hlw;have CI:=Ih (IndexRune_asc ch Ha.out R hval W);have Hit2:=Ih hit2;clear hval hit2 hit
   go_wp2_with fail
   refine(CI.out).mono ?_;rintro e w2 ⟨i,rfl,hi,hb2⟩;have hit3:Hid (w2.heap[w.heap.size]? =some (.stringIter s (pos+K))):=by show _=_;rw[hb2.block _ hlw];exact Hit2.out
   have hbw3:Below w.heap.size w w2:=hbw2.trans (hb2.mono hbw2.size);by_cases hi0:0<=i
   ·have HD:Hid (s.data.toList.any ch.data.toList.contains=true):=by
     show _=_;have h1:=hi.out;rw[decide_eq_true hi0]at h1;rw[hS.out,hstep.out,<-h1];rfl
    go_wp2
    go_ret;exact⟨(pos:Int),rfl,Ih (by rw[HD.out];exact decide_eq_true (by omega)),hbw3⟩
   ·have HD:Hid (s.data.toList.any ch.data.toList.contains=(s.data.toList.drop (pos+K)).any ch.data.toList.contains):=by
     show _=_;have h1:=hi.out;rw[decide_eq_false hi0]at h1;rw[hS.out,hstep.out,<-h1];rfl
    go_wp2
    go_roundg g'
    case measure=>omega
    case rel=>exact⟨pos+K,hit3.out,hbw3,by omega,HD⟩
  ·have hnx:∀ty,(Instr.next (.pointer (some ⟨w.heap.size,0,none⟩)) true ty).run Tryz.prog wr=_:=fun ty=>Lib.run_next_end_at wr w.heap.size s pos ty hit hps
   have HD:Hid (s.data.toList.any ch.data.toList.contains=false):=by
    show _=_;rw[hS.out,List.drop_eq_nil_of_le (by rw[len_of_size];omega)];rfl
   go_wp2
   go_ret;exact⟨-1,rfl,Ih (by rw[HD.out];rfl),hbw⟩
theorem info256:(Tryz.prog.info? 158).map (fun i=>(i.zero,i.size))=some (some (.agg (Array.replicate 256 (.bool false))),256):=by kernel_rfl
theorem IndexAny_asc (s ch:ByteArray) (hs:s.size<=1073741824) (h2:2<=ch.size) (hz:ch.size<=1000) (ha:∀c∈ch.data.toList,c.toNat<128) (w:World):
  Calls Tryz.prog 195 #[.string s,.string ch] w fun e w'=>∃i:Int,e=.returned (.int .i64 i)/\Hid (decide (0<=i)=s.data.toList.any ch.data.toList.contains)/\Below w.heap.size w w':=by
 by_cases h8:s.size<=8
 ·exact IndexAny_few s ch h8 h2 ha w
 ·refine(Tryz.strings_IndexAny_long (zero_of_info info256).1 s ch w h2 (by omega) (by omega) (by omega) (fun j b hj=>ha b (List.mem_of_getElem? hj))).mono ?_;rintro e w' ⟨he,hw⟩;refine⟨_,he,Ih ?_,?_⟩
  ·have:=Lz.containsAny_eq s.data.toList ch.data.toList;unfold Lib.containsAny at this;exact this
  ·rw[hw];exact((Below.refl _ w).alloc (Nat.le_refl _) _).alloc (by simp) _
theorem banned_asc:∀c∈bannedB.data.toList,c.toNat<128:=by decide
theorem cany_all (s:ByteArray) (hs:s.size<=1073741824):CAny s:=by
 intro W _;have cI:=Ih (IndexAny_asc s bannedB hs (by decide) (by decide) banned_asc W);have hB:s.data.toList.any bannedB.data.toList.contains=s.data.toList.any Lz.banned.contains:=rfl;rw[hB]at cI;generalize s.data.toList.any Lz.banned.contains=q at cI⊢;clear hB;go_enter Tryz.func256,Tryz.ntmps256
 go_wp2_with fail
 refine(cI.out).mono ?_;rintro e w1 ⟨i,rfl,hi,hb⟩;have Hi:=Ih hi.out.symm;clear hi
 go_wp2
 go_ret;exact⟨by rw[Hi.out];rfl,hb⟩
end Go.Proofs.YtfepgodjaeddgaaGreatDoor
