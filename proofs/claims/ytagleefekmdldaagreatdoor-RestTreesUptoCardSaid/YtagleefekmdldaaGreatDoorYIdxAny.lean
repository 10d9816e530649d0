/- strings.IndexAny at ASCII chars and ANY text: the place of the first byte that is among them. Condition: chars of 1 to 65536 ASCII bytes; the text of at most 67108864. -/
import Derived.Test.YtagleefekmdldaaGreatDoorProg
import Derived.Test.YtagleefekmdldaaGreatDoorYShelf
import Derived.Test.YtagleefekmdldaaGreatDoorYKit
import Derived.Laws.RangeAny
import Derived.Laws.Runes
import Derived.Lib.IndexAny
import Derived.Deep.LoopGhost
import Derived.Lib.OthersKept
import Derived.WalkSmall
set_option linter.unusedVariables false
set_option linter.unusedSimpArgs false
set_option maxHeartbeats 1000000
set_option maxRecDepth 1000000
namespace Go.Proofs.YtagleefekmdldaaGreatDoor
open Go.Proofs.Tryz Go.RowKit

theorem dec_high (s:ByteArray) (i:Nat) (h:i < s.size) (ha:128≤(s[i]'h).toNat) :
  1≤(Utf8.decode s i).2∧i + (Utf8.decode s i).2≤s.size∧∀ j (hj:j < s.size),i≤j→j < i + (Utf8.decode s i).2→128≤(s[j]'hj).toNat:=by
 have g0:s.get! (i + 0)=s[i]'h:=get_at s i h;have gk:∀ k (hk:i + k < s.size),s.get! (i + k)=s[i + k]'hk:=fun k hk=>by
  have:=get_at s (i + k) hk
  simpa using this
 have hb0:¬ (s.get! (i + 0)).toNat < 128:=by rw[g0];omega
 have one:∀ j (hj:j < s.size),i≤j→j < i + 1→128≤(s[j]'hj).toNat:=by
  intro j hj h1 h2;obtain rfl:j=i:=by omega
  exact ha
 unfold Utf8.decode;simp only [hb0,if_false]
 split
 ·rename_i hc
  simp only [Bool.and_eq_true,decide_eq_true_eq,beq_iff_eq] at hc;obtain⟨_,h1,c1⟩:=hc
  split
  ·refine⟨by show 1≤2;omega,by show i + 2≤_;omega,fun j hj hl hr=>?_⟩
   have hr':j < i + 2:=hr
   rcases Nat.lt_or_ge j (i + 1) with hlt | hge
   ·exact one j hj hl hlt
   ·obtain rfl:j=i + 1:=by omega
    rw[gk 1 h1] at c1;omega
  ·exact⟨by show 1≤1;omega,by show i + 1≤_;omega,one⟩
 split
 ·rename_i hc
  simp only [Bool.and_eq_true,decide_eq_true_eq,beq_iff_eq] at hc;obtain⟨⟨_,h1,c1⟩,h2,c2⟩:=hc
  split
  ·refine⟨by show 1≤3;omega,by show i + 3≤_;omega,fun j hj hl hr=>?_⟩
   have hr':j < i + 3:=hr
   rcases Nat.lt_or_ge j (i + 1) with hlt | hge
   ·exact one j hj hl hlt
   ·rcases Nat.lt_or_ge j (i + 2) with hlt | hge
    ·obtain rfl:j=i + 1:=by omega
     rw[gk 1 h1] at c1;omega
    ·obtain rfl:j=i + 2:=by omega
     rw[gk 2 h2] at c2;omega
  ·exact⟨by show 1≤1;omega,by show i + 1≤_;omega,one⟩
 split
 ·rename_i hc
  simp only [Bool.and_eq_true,decide_eq_true_eq,beq_iff_eq] at hc;obtain⟨⟨⟨_,h1,c1⟩,h2,c2⟩,h3,c3⟩:=hc
  split
  ·refine⟨by show 1≤4;omega,by show i + 4≤_;omega,fun j hj hl hr=>?_⟩
   have hr':j < i + 4:=hr
   rcases Nat.lt_or_ge j (i + 1) with hlt | hge
   ·exact one j hj hl hlt
   ·rcases Nat.lt_or_ge j (i + 2) with hlt | hge
    ·obtain rfl:j=i + 1:=by omega
     rw[gk 1 h1] at c1;omega
    ·rcases Nat.lt_or_ge j (i + 3) with hlt | hge
     ·obtain rfl:j=i + 2:=by omega
      rw[gk 2 h2] at c2;omega
     ·obtain rfl:j=i + 3:=by omega
      rw[gk 3 h3] at c3;omega
  ·exact⟨by show 1≤1;omega,by show i + 1≤_;omega,one⟩
 ·exact⟨by show 1≤1;omega,by show i + 1≤_;omega,one⟩

theorem j5a (l:List UInt8) (c:UInt8) (hl:∀ b ∈ l,b.toNat < 128) (hc:128≤c.toNat):Lib.indexByte l c = -1:=by
 have h:=Lib.contains_iff_indexByte l c;have hn:l.contains c=false:=by
  cases hh:l.contains c with
  | false=>rfl
  | true =>
   have:=hl c (by simpa using hh);omega
 rw[hn] at h;have h1:=of_decide_eq_false h.symm;have h2:=Lib.indexByte_ge l c;omega
theorem q76 (s:ByteArray) (c:UInt8) (w:World) (h:Lib.indexByte s.data.toList c = -1) :
  Calls prog 151 #[.string s,.int .u8 (c.toNat:Int)] w fun e w'=>e=.returned (.int .i64 (-1))∧w'=w :=
 (Tryz.strings_IndexByte s (c.toNat:Int) w).mono fun e w' ⟨he,hw⟩=>⟨by rw[he];simp[h],hw⟩

theorem World.block_lt_iter {w:World} {k:Nat} {s:ByteArray} {i:Nat} (h:w.heap[k]? = some (.stringIter s i)):k < w.heap.size:=by
 rcases Nat.lt_or_ge k w.heap.size with hlt | hge
 ·exact hlt
 ·rw[Array.getElem?_eq_none hge] at h;cases h
theorem q2m (w:World) (s:ByteArray) (k:Nat):Below w.heap.size w (w.iter s k):=(Below.refl _ _).alloc (Lr) _

theorem q3s (s:ByteArray) (w:World) (_hs:s.size≤67108864) (hascii:∀ b ∈ s.data.toList,b.toNat < 128) :
  Calls prog 154 #[.string s,.int .i32 65533] w fun e w'=>e=.returned (.int .i64 (-1))∧Below w.heap.size w w':=by
 have HA:=Ld hascii;clear hascii;go_enter func154,ntmps154;go_wp2_with fail
 go_loopg [5,6] s.size (fun g _ _ wx=>∃ i:Nat,i + g=s.size∧wx=w.iter s i)
 case atStart=>exact⟨0,by omega,rfl⟩
 case round =>
  obtain⟨i,hig,rfl⟩:=hrel
  cases gk with
  | zero =>
   obtain rfl:i=s.size:=by omega
   have hnx:=fun ty=>run_next_end (P:=prog) w s s.size ty (by omega)
   go_wp2;go_ret;exact⟨rfl,q2m _ _ _⟩
  | succ g =>
   have hi:i < s.size:=by omega
   have hx:=HA.out _ (z6a s i hi);have hnx:=fun ty=>run_next_ascii (P:=prog) w s i ty hi hx
   have hne:((s[i].toNat:Int) == 65533)=false:=beq_eq_false_iff_ne.2 (by omega);go_wp2
   go_roundg g
   case measure=>omega
   case rel=>exact⟨i + 1,by omega,rfl⟩

theorem q3r (s:ByteArray) (r:Int) (w:World) (h128:128≤r) (hne:(r == 65533)=false) (hv:Lib.validRune r=false) :
  Calls prog 154 #[.string s,.int .i32 r] w fun e w'=>e=.returned (.int .i64 (-1))∧Below w.heap.size w w':=by
 go_enter func154,ntmps154;go_wp2_with (go_at_call 172;refine(Tryz.utf8_ValidRune _ _).mono ?_;rintro e w' ⟨rfl,hw⟩;rw[hw,hv]);go_ret;exact⟨rfl,Below.refl _ _⟩

theorem q26 (s:ByteArray) (r:Int) (w:World) (hs:s.size≤67108864) (hascii:∀ b ∈ s.data.toList,b.toNat < 128) (h128:128≤r) (hne:(r == 65533)=false) (hv:Lib.validRune r=true) :
  Calls prog 154 #[.string s,.int .i32 r] w fun e w'=>e=.returned (.int .i64 (-1))∧Below w.heap.size w w':=by
 have HA:=Ld hascii;clear hascii;have hf:=encode_facts r (by rw[validRune_eq];exact hv) h128;obtain⟨u,hu⟩:∃ u,Utf8.encode r=u:=⟨_,rfl⟩;rw[hu] at hf;obtain⟨f1,f2,f3⟩:=hf;have f3:=f3 (by omega);obtain⟨m,hm⟩:∃ m:Nat,u.size - 1=m:=⟨_,rfl⟩;have hmu:m < u.size:=by omega
 have f4:128≤(u[m]'hmu).toNat:=by subst hm;exact f3
 have hz:(u.size:Int)=(m:Int) + 1:=by omega
 clear f3 hm;go_enter func154,ntmps154;go_wp2_with (go_at_call 172;refine(Tryz.utf8_ValidRune _ _).mono ?_;rintro e w' ⟨rfl,hw⟩;rw[hw,hv])
 go_step3
 go_wp2_with fail
 by_cases hl:m < s.size
 ·have hsm:=HA.out _ (z6a s m hl)
  have hd:((s[m].toNat:Int) != (u[m].toNat:Int))=true:=by rw[bne_iff_ne];omega
  have hin:Lib.indexByte (s.data.toList.drop (m + 1)) (u[m]'hmu) = -1:=j5a _ _ (fun b hb=>HA.out b (List.mem_of_mem_drop hb)) f4;have hin2:Lib.indexByte (s.extract (m + 1) s.size).data.toList (u[m]'hmu) = -1:=by rw[← Lib.toList_data,z6e,List.take_of_length_le (by simp)];exact hin
  have HI:=Ld hin2;clear hin hin2;refine wp_loop_rounds 1 ?_;rw[rounds_succ];go_wp2_with fail
  go_step3
  go_wp2_with fail;clear hu hne hv;have HZ:=Ld hz;clear hz
  go_quiet (fail)
  go_wp2_with fail;have hbl:Below w.heap.size w (w.drewN nq):=below_drewN (Below.refl _ _) nq;generalize w.drewN nq=w2 at hbl ⊢;have b1:IntKind.i64.wrap ((m:Int) + 1)=(m:Int) + 1:=IntWalk.i64_in _ (by omega);have b2:0≤(m:Int) + 1:=by omega
  have b3:((m:Int) + 1).toNat=m + 1:=by omega
  have b4:(m:Int) + 1≤(s.size:Int):=by omega
  go_quiet ((go_at_call 151;exact Calls.quiet_of_same (q76 _ _ _ HI.out)))
  clear b1 b2 b3 b4;go_wp2_with fail;rw[Exit.noGoto_ret];go_wp2_with fail;rw[Exit.noGoto_ret];go_ret;exact⟨rfl,below_drewN hbl _⟩
 ·refine wp_loop_rounds 1 ?_
  rw[rounds_succ];go_wp2_with fail;rw[Exit.noGoto_ret];go_ret;exact⟨rfl,Below.refl _ _⟩

theorem q27 (s:ByteArray) (r:Int) (w:World) (hs:s.size≤67108864) (hascii:∀ b ∈ s.data.toList,b.toNat < 128) (h128:128≤r) :
  Calls prog 154 #[.string s,.int .i32 r] w fun e w'=>e=.returned (.int .i64 (-1))∧Below w.heap.size w w':=by
 by_cases he:r=65533
 ·subst he;exact q3s s w hs hascii
 ·cases hv:Lib.validRune r with
  | false=>exact q3r s r w h128 (beq_eq_false_iff_ne.2 he) hv
  | true=>exact q26 s r w hs hascii h128 (beq_eq_false_iff_ne.2 he) hv

theorem j1v {s:ByteArray} {chars:List UInt8} {i n:Nat} (h:Lib.NoAny s.data.toList chars i) (hc:∀ b ∈ chars,b.toNat < 128) (hn:∀ j (hj:j < s.size),i≤j→j < i + n→128≤(s[j]'hj).toNat):Lib.NoAny s.data.toList chars (i + n):=by
 intro j b hj hb
 by_cases hlt:j < i
 ·exact h j b hlt hb
 ·have hjs:j < s.size:=by
   rcases Nat.lt_or_ge j s.size with h1 | h1
   ·exact h1
   ·rw[List.getElem?_eq_none (by simpa using h1)] at hb;cases hb
  have hx:=hn j hjs (by omega) hj;have e:s.data.toList[j]? = some (s[j]'hjs):=Lib.data_getElem? s j hjs;rw[e] at hb;injection hb with hb;subst hb
  cases hcc:chars.contains (s[j]'hjs) with
  | false=>rfl
  | true =>
   have:=hc _ (by simpa using hcc);omega

theorem q25 (s chars:ByteArray) (w:World) (h2:2≤chars.size) (hcs:chars.size≤67108864) (h8:s.size≤8) (hascii:∀ b ∈ chars.data.toList,b.toNat < 128) :
  Calls prog 136 #[.string s,.string chars] w fun e w'=>e=.returned (.int .i64 (Lib.indexAny s.data.toList chars.data.toList))∧Below w.heap.size w w':=by
 have HA:=Ld hascii;clear hascii;have hemp:chars.toList.isEmpty=false:=by
  rw[Lib.toList_data]
  cases h:chars.data.toList with
  | nil=>have:=Lib.size_eq chars;rw[h,List.length_nil] at this;omega
  | cons _ _=>rfl
 have hn1:((chars.size:Int) == 1)=false:=beq_eq_false_iff_ne.2 (by omega);have h8z:decide ((8:Int) < (s.size:Int))=false:=decide_eq_false (by omega);go_enter func136,ntmps136;go_wp2_with (go_at_call 155;refine(Tryz.strings_shouldUseASCIISet _ _).mono ?_;rintro e w' ⟨rfl,hw⟩;rw[hw,h8z])
 go_loopg [9,10] s.size (fun g _ _ wx=>∃ i:Nat,i≤s.size∧s.size - i≤g∧wx.heap[w.heap.size]? = some (.stringIter s i)∧Below w.heap.size w wx∧Lib.NoAny s.data.toList chars.data.toList i)
 case atStart=>exact⟨0,by omega,by omega,World.iter_heap _ _ _,q2m _ _ _,Lib.NoAny.zero _ _⟩
 case round =>
  obtain⟨i,hi,hig,hk,hbl,hno⟩:=hrel;have HN:=Ld hno;clear hno
  by_cases hlt:i < s.size
  ·by_cases hb:(s[i]'hlt).toNat < 128
   ·have hnx:=fun ty=>Lib.run_next_ascii_at (P:=prog) wr w.heap.size s i ty hk hlt hb
    have hk2:=Lib.iterAt_heap wr w.heap.size s i (i + 1) hk;have hbl2:=Lib.below_iterAt hbl (Lr) s (i + 1);generalize wr.iterAt w.heap.size s (i + 1)=w2 at hnx hk2 hbl2;obtain⟨x,hx⟩:∃ x:UInt8,s[i]'hlt=x:=⟨_,rfl⟩;have hxl:s.data.toList[i]? = some x:=by rw[← hx];exact Lib.data_getElem? s i hlt
    rw[hx] at hnx hb;have Hx:=Ld hxl;clear hxl hx;have hcon:=Lib.contains_iff_indexByte chars.data.toList x;have hback:((x.toNat:Int)).toNat.toUInt8=x:=by simp
    cases hin:chars.data.toList.contains x
    ·rw[hin] at hcon
     have hlt:¬ ((0:Int)≤Lib.indexByte chars.data.toList x):=of_decide_eq_false hcon.symm;clear hcon;have HIN:=Ld hin;clear hin;go_wp2_with (go_at_call 154;refine(Tryz.strings_IndexRune_ascii _ _ _ (by omega) (by omega)).mono ?_;rintro e w' ⟨rfl,hw⟩;rw[hw,hback])
     go_roundg (gk - 1)
     case measure=>omega
     case rel=>exact⟨i + 1,by omega,by omega,hk2,hbl2,HN.out.succ Hx.out HIN.out⟩
    ·rw[hin] at hcon
     have hge:(0:Int)≤Lib.indexByte chars.data.toList x:=of_decide_eq_true hcon.symm;clear hcon;have HIN:=Ld hin;clear hin;go_wp2_with (go_at_call 154;refine(Tryz.strings_IndexRune_ascii _ _ _ (by omega) (by omega)).mono ?_;rintro e w' ⟨rfl,hw⟩;rw[hw,hback]);go_ret;exact⟨by rw[Lib.indexAny_hit HN.out Hx.out HIN.out];rfl,hbl2⟩
   ·have hnx:=fun ty=>Lib.run_next_any_at (P:=prog) wr w.heap.size s i ty hk hlt
    obtain⟨d1,d2,d3⟩:=dec_high s i hlt (by omega);have d4:=(decode_high s i hlt (by omega)).1;have hk2:=Lib.iterAt_heap wr w.heap.size s i (i + (Utf8.decode s i).2) hk;have hbl2:=Lib.below_iterAt hbl (Lr) s (i + (Utf8.decode s i).2);have H3:=Ld (j1v HN.out (fun b hb=>HA.out b hb) d3);clear d3;generalize wr.iterAt w.heap.size s (i + (Utf8.decode s i).2)=w2 at hnx hk2 hbl2;generalize (Utf8.decode s i).1=r at hnx d4;generalize (Utf8.decode s i).2=n at hnx d1 d2 hk2 H3;go_wp2_with (go_at_call 154;refine(q27 _ _ _ hcs HA.out (by omega)).mono ?_;rintro e w3 ⟨rfl,hw3⟩)
    go_roundg (gk - n)
    case measure=>omega
    case rel=>exact⟨i + n,by omega,by omega,(hw3.block _ (by have:=hbl2.size;have:=World.block_lt_iter hk2;omega)).trans hk2,hbl2.trans (hw3.mono hbl2.size),H3.out⟩
  ·obtain rfl:i=s.size:=by omega
   have hnx:=fun ty=>Lib.run_next_end_at (P:=prog) wr w.heap.size s s.size ty hk (by omega)
   go_wp2;go_ret;exact⟨by rw[Lib.indexAny_none (by rw[← Lib.size_eq];exact HN.out)];rfl,hbl⟩

theorem Tryz.zeroSet:∀ w,(zeroValue 185).run prog w=.ok (.agg (Array.replicate 256 (.bool false))) w:=fun w=>by kernel_rfl
theorem z2g (s chars:ByteArray) (w:World) (h1:1≤chars.size) (hcs:chars.size≤67108864) (hs:s.size≤67108864) (hascii:∀ b ∈ chars.data.toList,b.toNat < 128) :
  Calls prog 136 #[.string s,.string chars] w fun e w'=>e=.returned (.int .i64 (Lib.indexAny s.data.toList chars.data.toList))∧Below w.heap.size w w':=by
 have ha:∀ (j:Nat) (b:UInt8),chars.data.toList[j]? = some b→b.toNat < 128:=fun j b h=>hascii b (List.mem_of_getElem? h)
 by_cases hc1:chars.size=1
 ·exact(Tryz.strings_IndexAny_one s chars w hc1 ha).mono fun e w' ⟨he,hw⟩=>⟨he,by rw[hw];exact Below.refl _ _⟩
 ·by_cases h8:s.size≤8
  ·exact q25 s chars w (by omega) hcs h8 hascii
  ·refine(Tryz.strings_IndexAny_long Tryz.zeroSet s chars w (by omega) (by omega) (by omega) (by omega) ha).mono fun e w' ⟨he,hw⟩=>⟨he,?_⟩
   rw[hw];exact((Below.refl _ _).alloc (Lr) _).alloc (by simp) _
end Go.Proofs.YtagleefekmdldaaGreatDoor
