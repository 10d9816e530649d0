/- Contract of slices.Insert of one element, over entries. Condition: at most 1000 entries. -/
import Derived.Test.YtjonkbdldebkiaaGreatDoorYWkA
import Derived.Lib.AppendZerosOnto
import Derived.Lib.Overlaps
import Derived.Deep.RegionHeld3
import Derived.Test.YtjonkbdldebkiaaGreatDoorYWkRow
import Derived.Test.YtjonkbdldebkiaaGreatDoorYWfJ
import Derived.Lib.SliceRun
set_option linter.unusedVariables false
set_option linter.unusedSimpArgs false
set_option maxHeartbeats 4000000
set_option maxRecDepth 100000
namespace Go.Proofs.YtjonkbdldebkiaaGreatDoor
open Go.Proofs.Tryz Go.RowKit
theorem j2b (cur:List Value) (l:List Fd.En) (k:Nat) (x:Fd.En) (hk:k≤l.length) (h:cur.take (k * 5)=y9 (l.take k)) (hc:(l.length + 1) * 5≤cur.length) :
  ((cur.take (k * 5)++(enV x)++(y9 (l.drop k)++cur.drop ((k + 1) * 5 + (y9 (l.drop k)).length))).take ((l.length + 1) * 5))=y9 (l.take k++x :: l.drop k):=by
 have e:y9 (l.take k++x :: l.drop k)=y9 (l.take k)++(enV x)++y9 (l.drop k):=by
  rw[z1h,show y9 (x :: l.drop k)=(enV x)++y9 (l.drop k) from rfl,List.append_assoc]
 have hl:(y9 (l.take k++x :: l.drop k)).length=(l.length + 1) * 5:=by rw[Y9,List.length_append,List.length_cons,List.length_take,List.length_drop,Nat.min_eq_left hk];omega
 rw[h,← List.append_assoc,← e,List.take_append_of_le_length (by omega),List.take_of_length_le (by omega)]
theorem j3c (l:List Fd.En) (k:Nat) (x:Fd.En) (hk:k≤l.length) (hl:l.length≤1000) (B V:Nat) (v:Value) (w:World) (h:w.ownsRow B 44 5 v l.length (y9 l)) (hV:Blk w V 44 ((enV x):List Value).toArray) (hne:v.ownBlock ≠ some V) (hB:B≤w.heap.size) :
  Calls prog 144 #[v,.int .i64 k,.slice (some ⟨V,0,none⟩) 1 1] w fun e w'=>∃ v',e=.returned v'∧w'.ownsRow B 44 5 v' (l.take k++x :: l.drop k).length (y9 (l.take k++x :: l.drop k))∧Ap (fun b=>v.ownBlock=some b) w w'∧(v'.ownBlock=v.ownBlock∨v'.ownBlock=some w.heap.size):=by
 obtain⟨i0,hi,hz0,hz1,hz2⟩:=info_parts Tryz.infoEntry;have hlen:(l.take k++x :: l.drop k).length=l.length + 1:=by rw[List.length_append,List.length_cons,List.length_take,List.length_drop];omega
 have hone:((enV x):List Value).length=1 * 5:=rfl;have h1o:∀ u ∈ ((enV x):List Value),u.oneCell'=true:=(by intro u hu;simp[enV] at hu;rcases hu with rfl | rfl | rfl | rfl | rfl <;> rfl);have hnews:∀ W:World,W.heap[V]? = w.heap[V]?→∀ j u,((enV x):List Value)[j]? = some u→W.cell? ((⟨V,0,none⟩:Addr).add j)=some u:=fun W hW j u hu=>by
  rw[z1m,Nat.zero_add];exact(cell_of_block hW j).trans ((Blk.cell hV j).trans (by simpa using hu))
 have HN:=Ld hnews;have HO:=Ld h1o;have hVw:=hV.lt;clear hnews h1o
 by_cases hkn:k=l.length
 ·as_aux_lemma =>
  subst hkn;have HE:Hid (y9 (l.take l.length++x :: l.drop l.length)=y9 l++(enV x)):=by
   show _=_;rw[List.take_length,List.drop_length,z1h];rfl
  have HL:=Ld hlen;have h2:=h.2;clear hlen hV hk
  rcases h2 with ⟨hv,h0⟩ | ⟨g,cap,cur,hv,_,_,hn,hm,_⟩
  ·have hl0:l=[]:=List.eq_nil_of_length_eq_zero h0
   subst hl0;subst hv;have h:w.ownsRow B 44 5 (.slice none 0 0) 0 (y9 []):=h;have e0:(([]:List Fd.En).length:Int)=0:=rfl;have e1:([]:List Fd.En).length=0:=rfl;clear h0;rw[e0];go_enter func144,ntmps144;go_wp2_with (at_builtin;refine J3 rfl _ _ 23 rfl B 44 i0 (.agg #[.string ⟨#[]⟩,.string ⟨#[]⟩,.string ⟨#[]⟩,.int .i64 0,.string ⟨#[]⟩]) 5 72 underlying23 hi hz0 hz1 hz2 rfl (by decide) (.slice none 0 0) 0 (y9 []) rfl h ⟨V,0,none⟩ 1 1 (enV x) rfl hone (HN.out w rfl) HO.out (by decide) (by unfold maxLen;omega) (by omega) hB ?_);intro v' w1 hown hgrow hv';obtain⟨ao',cap',e'⟩:=Z9 hown;subst e';have OW:=Ld hown;have HGR:=Ld hgrow;have HV:=Ld hv';clear hown hgrow hv' h;go_wp2_with fail;go_ret;refine⟨_,rfl,?_,(Ap.refl _ w).grown HGR.out (fun b _ e=>e),HV.out⟩
   first
    | (rw[HL.out,HE.out];exact OW.out)
    | exact OW.out
  ·subst hv
   have hcm:cap≤9223372036854775807:=by unfold maxLen at hm;omega
   clear hm
   by_cases hq:cap=l.length
   ·subst hq
    go_enter func144,ntmps144;go_wp2_with (at_builtin;refine J3 rfl _ _ 23 rfl B 44 i0 (.agg #[.string ⟨#[]⟩,.string ⟨#[]⟩,.string ⟨#[]⟩,.int .i64 0,.string ⟨#[]⟩]) 5 72 underlying23 hi hz0 hz1 hz2 rfl (by decide) (.slice (some ⟨g,0,none⟩) l.length l.length) l.length (y9 l) rfl h ⟨V,0,none⟩ 1 1 (enV x) rfl hone (HN.out w rfl) HO.out (by decide) (by unfold maxLen;omega) (by omega) hB ?_);intro v' w1 hown hgrow hv';obtain⟨ao',cap',e'⟩:=Z9 hown;subst e';have OW:=Ld hown;have HGR:=Ld hgrow;have HV:=Ld hv';clear hown hgrow hv' h;go_wp2_with fail;go_ret;refine⟨_,rfl,?_,(Ap.refl _ w).grown HGR.out (fun b _ e=>e),HV.out⟩
    first
     | (rw[HL.out,HE.out];exact OW.out)
     | exact OW.out
   ·have hq2:l.length < cap:=by omega
    go_enter func144,ntmps144;go_wp2_with (at_builtin;refine J3 rfl _ _ 23 rfl B 44 i0 (.agg #[.string ⟨#[]⟩,.string ⟨#[]⟩,.string ⟨#[]⟩,.int .i64 0,.string ⟨#[]⟩]) 5 72 underlying23 hi hz0 hz1 hz2 rfl (by decide) (.slice (some ⟨g,0,none⟩) l.length cap) l.length (y9 l) rfl h ⟨V,0,none⟩ 1 1 (enV x) rfl hone (HN.out w rfl) HO.out (by decide) (by unfold maxLen;omega) (by omega) hB ?_);intro v' w1 hown hgrow hv';obtain⟨ao',cap',e'⟩:=Z9 hown;subst e';have OW:=Ld hown;have HGR:=Ld hgrow;have HV:=Ld hv';clear hown hgrow hv' h;go_wp2_with fail;go_ret;refine⟨_,rfl,?_,(Ap.refl _ w).grown HGR.out (fun b _ e=>e),HV.out⟩
    first
     | (rw[HL.out,HE.out];exact OW.out)
     | exact OW.out
 have hkl:k < l.length:=by omega
 obtain⟨g,cap,cur,rfl,hg,hcs,hnc,hcm,hBg,ht,_⟩:=z8o h (by omega);have hgw:g < w.heap.size:=(Array.getElem?_eq_some_iff.1 hg).1;have hgV:g ≠ V:=fun e=>hne (by rw[e];rfl)
 have hct:cur.toList.length=cap * 5:=by rw[Array.length_toList];exact hcs
 have hdl:(y9 (l.drop k)).length=(l.length - k) * 5:=by rw[Y9,List.length_drop]
 have hsz:(prog.info? 44).map (·.size)=some 5:=by rw[hi];simp[hz1]
 have htk:cur.toList.take (k * 5)=y9 (l.take k):=by rw[← z3d,← ht,List.take_take,Nat.min_eq_left (by omega)]
 have hmd:=Ld (z6k (l.drop k));have hkc:k≤cap:=by omega
 have hk1c:¬ cap=k:=by omega
 have hkne:¬ ((k:Int)=(l.length:Int)):=by omega
 have hw1:IntKind.i64.wrap ((l.length:Int) + 1)=(l.length:Int) + 1:=by rw[IntKind.wrap_i64];omega
 have hw2:IntKind.i64.wrap ((k:Int) + 1)=(k:Int) + 1:=by rw[IntKind.wrap_i64];omega
 have htn:((k:Int) + 1).toNat=k + 1:=by omega
 have htl:((l.length:Int) + 1).toNat=l.length + 1:=by omega
 have hb0:(0:Int)≤(k:Int) + 1:=by omega
 have hb1:(k:Int) + 1≤(l.length:Int) + 1:=by omega
 have hb2:(k:Int)≤(l.length:Int) + 1:=by omega
 have hb3:(k:Int)≤(l.length:Int):=by omega
 have hb4:(0:Int)≤(l.length:Int) + 1:=by omega
 have hsrc:∀ W:World,W.heap[g]? = w.heap[g]?→∀ j u,(y9 (l.drop k))[j]? = some u→W.cell? ((⟨g,k * 5,none⟩:Addr).add j)=some u:=fun W hW j u hu=>by
  rw[z1m,cell_of_block hW];have hlt:j < (y9 (l.drop k)).length:=(List.getElem?_eq_some_iff.1 hu).1;have e:(y9 (l.drop k))[j]? = cur[k * 5 + j]?:=by
   rw[← z8h,← ht,List.getElem?_drop,List.getElem?_take,if_pos (by omega),Array.getElem?_toList]
  rw[e] at hu;exact(cell_of_row w g _ cur _ _ hg).trans hu
 by_cases hroom:cap < l.length + 1
 ·as_aux_lemma =>
  have hrz3:(cap:Int) < (l.length:Int) + 1:=by omega
  have hkk:(l.length:Int) + 1 - (k:Int)=((l.length + 1 - k:Nat):Int):=by omega
  have hik:k + (l.length + 1 - k)=l.length + 1:=by omega
  have hold:(Builtin.firstCells i0.size k (.slice (some ⟨g,0,none⟩) k cap)).run prog w.drew=.ok (y9 (l.take k)).toArray w.drew:=by
   rw[hz1];exact run_firstCells_some w.drew 5 k ⟨g,0,none⟩ k cap (y9 (l.take k)) (by rw[Y9,List.length_take,Nat.min_eq_left hk]) (fun j u hj=>by
    rw[z1m,Nat.zero_add];rw[← htk,List.getElem?_take] at hj
    split at hj
    ·exact(cell_of_row w g _ cur _ _ hg).trans (by simpa using hj)
    ·cases hj)
  obtain⟨G,hG⟩:∃ G,G=grownCap w (l.length + 1) cap 44:=⟨_,rfl⟩;obtain⟨ROW,hROW⟩:∃ ROW:Array Value,ROW=(y9 (l.take k)).toArray++Builtin.zeroCells ((.agg #[.string ⟨#[]⟩,.string ⟨#[]⟩,.string ⟨#[]⟩,.int .i64 0,.string ⟨#[]⟩]):Value).cells (l.length + 1 - k)++Builtin.zeroCells ((.agg #[.string ⟨#[]⟩,.string ⟨#[]⟩,.string ⟨#[]⟩,.int .i64 0,.string ⟨#[]⟩]):Value).cells (G - (l.length + 1)):=⟨_,rfl⟩;have hrz:∀ ty,(Builtin.append_ #[23,3] ty #[.slice (some ⟨g,0,none⟩) k cap,.int .i64 ((l.length:Int) + 1 - (k:Int))]).run prog w=.ok (.slice (some ⟨w.heap.size,0,none⟩) (l.length + 1) G) (w.drew.alloc (.cells ROW 44)):=fun ty=>by
   have hh:=Lib.run_append_grow_zeros w 23 3 ty 44 i0 _ .i64 .i64 underlying23 underlying3 hi hz0 (some ⟨g,0,none⟩) k cap (y9 (l.take k)) hold (l.length + 1 - k) (by omega) (by rw[hz1];decide) (by omega) (by omega) (by rw[hz2];omega) (by rw[hz2,hik];exact growslice_fits hroom (by omega));rw[hik,← hG,← hROW] at hh;rw[hkk];exact hh
  have hGn:l.length + 1≤G:=by rw[hG];exact grownCap_ge w _ _ _
  have hGm:G≤maxLen:=by rw[hG];exact grownCap_le_maxLen w _ _ _ (by unfold maxLen;omega)
  have hG63:G≤9223372036854775807:=by unfold maxLen at hGm;omega
  have hRs:ROW.size=G * 5:=by
   rw[hROW];simp only [Array.size_append,List.size_toArray,size_zeroCells,Y9,List.length_take,show ((.agg #[.string ⟨#[]⟩,.string ⟨#[]⟩,.string ⟨#[]⟩,.int .i64 0,.string ⟨#[]⟩]):Value).cells.size=5 from rfl];omega
  have hRt:ROW.toList.take (k * 5)=y9 (l.take k):=by
   rw[hROW];simp only [Array.toList_append,List.append_assoc];rw[List.take_append_of_le_length (by rw[Y9,List.length_take];omega)];exact List.take_of_length_le (by rw[Y9,List.length_take];omega)
  have hRl:ROW.toList.length=G * 5:=by rw[Array.length_toList];exact hRs
  obtain⟨R1,hR1⟩:∃ R1,R1=(ROW.toList.take (k * 5)++(enV x)++ROW.toList.drop (k * 5 + ((enV x):List Value).length)).toArray:=⟨_,rfl⟩;have hR1l:R1.toList.length=G * 5:=by
   rw[hR1];simp only [List.length_append,List.length_take,List.length_drop,hRl,hone];omega
  have hR1s:R1.size=G * 5:=by rw[← Array.length_toList];exact hR1l
  obtain⟨R2,hR2⟩:∃ R2,R2=(R1.toList.take ((k + 1) * 5)++y9 (l.drop k)++R1.toList.drop ((k + 1) * 5 + (y9 (l.drop k)).length)).toArray:=⟨_,rfl⟩;have hN0:∀ (o:Obj) (W:World),W.heap=(w.alloc o).heap→W.heap[w.heap.size]? = some o:=fun o W e=>by rw[e];exact heap_alloc_new w o
  have hcpA:∀ (W:World),W.heap=(w.alloc (.cells ROW 44)).heap→∀ ty dc,(Builtin.copy_ #[23,23] ty #[.slice (some ⟨w.heap.size,k * 5,none⟩) (l.length + 1 - k) dc,.slice (some ⟨V,0,none⟩) 1 1]).run prog W=.ok (goInt 1) (W.setRow w.heap.size R1):=fun W hW ty dc=>by
   have hh:=z0t (P:=prog) W 23 23 ty 44 5 w.heap.size (k * 5) (l.length + 1 - k) dc ⟨V,0,none⟩ 1 1 ROW 44 (enV x) underlying23 hsz (hN0 _ W hW) (by rw[hone,show Nat.min 1 (l.length + 1 - k)=1 from Nat.min_eq_left (by omega)]) (HN.out W (by rw[hW];exact Below.heap_alloc w _ V hVw)) (by rw[hone,hRs];omega) HO.out;rw[show Nat.min 1 (l.length + 1 - k)=1 from Nat.min_eq_left (by omega),← hR1] at hh;exact hh
  have hcpB:∀ (W:World),W.heap=((w.alloc (.cells ROW 44)).setRow w.heap.size R1).heap→∀ ty dc sc,(Builtin.copy_ #[23,23] ty #[.slice (some ⟨w.heap.size,(k + 1) * 5,none⟩) (l.length - k) dc,.slice (some ⟨g,k * 5,none⟩) (l.length - k) sc]).run prog W=.ok (goInt ((l.length - k:Nat):Int)) (W.setRow w.heap.size R2):=fun W hW ty dc sc=>by
   have hh:=z0t (P:=prog) W 23 23 ty 44 5 w.heap.size ((k + 1) * 5) (l.length - k) dc ⟨g,k * 5,none⟩ (l.length - k) sc R1 44 (y9 (l.drop k)) underlying23 hsz (by rw[hW];exact setRow_heap (w.alloc (.cells ROW 44)) w.heap.size ROW R1 _ _ (heap_alloc_new w _)) (by rw[hdl,show Nat.min (l.length - k) (l.length - k)=l.length - k from Nat.min_eq_left (by omega)]) (hsrc W (by rw[hW,setRow_other _ _ g R1 (by omega)];exact Below.heap_alloc w _ g hgw)) (by rw[hdl,hR1s];omega) hmd.out;rw[show Nat.min (l.length - k) (l.length - k)=l.length - k from Nat.min_eq_left (by omega),← hR2] at hh;exact hh
  have FIN:Hid (∀ W:World,W.heap=(((w.alloc (.cells ROW 44)).setRow w.heap.size R1).setRow w.heap.size R2).heap→W.ownsRow B 44 5 (.slice (some ⟨w.heap.size,0,none⟩) (l.length + 1) G) (l.take k++x :: l.drop k).length (y9 (l.take k++x :: l.drop k))):=by
   intro W hW;rw[hlen];refine z5r hB (by rw[hW];exact setRow_heap _ _ R1 R2 _ _ (setRow_heap (w.alloc (.cells ROW 44)) w.heap.size ROW R1 _ _ (heap_alloc_new w _))) ?_ hGn hGm ?_
   ·rw[hR2]
    simp only [List.size_toArray,List.length_append,List.length_take,List.length_drop,hR1l,hdl];omega
   ·have e1:R1.toList.take ((k + 1) * 5)=y9 (l.take k)++(enV x):=by
     rw[hR1,hRt];show List.take _ (_++_++_)=_;rw[List.take_append_of_le_length (by rw[List.length_append,Y9,List.length_take,hone];omega)];exact List.take_of_length_le (by rw[List.length_append,Y9,List.length_take,hone];omega)
    rw[hR2,e1];show List.take _ (_++_++_)=_;have e2:y9 (l.take k++x :: l.drop k)=y9 (l.take k)++(enV x)++y9 (l.drop k):=by
     rw[z1h,show y9 (x :: l.drop k)=(enV x)++y9 (l.drop k) from rfl,List.append_assoc]
    have hl2:(y9 (l.take k++x :: l.drop k)).length=(l.length + 1) * 5:=by rw[Y9,hlen]
    rw[← e2,List.take_append_of_le_length (by omega)];exact List.take_of_length_le (by omega)
  have hGk:¬ (G=k):=by omega
  have hGk1:¬ (G=k + 1):=by omega
  have AW:Hid (∀ W1 W2 W3 W4:World,W1=(w.alloc (.cells ROW 44)).drew→W2=W1.setRow w.heap.size R1→W3=W2.drew→W4=W3.setRow w.heap.size R2→Ap (fun b=>(Value.slice (some ⟨g,0,none⟩) l.length cap).ownBlock=some b) w W4):=by
   rintro W1 W2 W3 W4 rfl rfl rfl rfl;have b1:Below w.heap.size w (w.alloc (.cells ROW 44)).drew:=((Below.refl w.heap.size w).alloc (Lr) _).drew;have sr:∀ (W:World) (R:Array Value),Below w.heap.size w W→Below w.heap.size w (W.setRow w.heap.size R):=fun W R q=>⟨q.os,q.tape,q.output,by have:=q.size;simpa [World.setRow] using this,fun b hb=>(setRow_other W w.heap.size b R (by omega)).trans (q.block b hb)⟩
   exact Ap.of_below (sr _ _ (sr _ _ b1).drew)
  have hcl0:¬ (l.length=0):=by omega
  clear hROW hR1 hR2 hRs hRt hRl hR1l hR1s hG hkk hik hold hN0 h hsrc hct hcs ht htk hdl hlen hV hg hz0 hz1 hz2 hi;have hE1:((w.alloc (.cells ROW 44)).drew).heap=(w.alloc (.cells ROW 44)).heap:=rfl;have hF1:(((w.alloc (.cells ROW 44)).drew.setRow w.heap.size R1).drew).heap=((w.alloc (.cells ROW 44)).setRow w.heap.size R1).heap:=rfl;have hrz':∀ ty,(Builtin.append_ #[23,3] ty #[.slice (some ⟨g,0,none⟩) k cap,.int .i64 ((l.length:Int) + 1 - (k:Int))]).run prog w=.ok (.slice (some ⟨w.heap.size,0,none⟩) (l.length + 1) G) ((w.alloc (.cells ROW 44)).drew):=hrz;have hA2:=fun ty dc=>hcpA _ hE1 ty dc
  have hB2:=fun ty dc sc=>hcpB _ hF1 ty dc sc
  clear hcpA hcpB hrz;go_enter func144,ntmps144;go_wp2_with (first
   | (at_builtin;refine Lib.wpList_append_run _ rfl _ _ _ _ rfl _ _ rfl rfl _ _ (hrz' _) ?_)
   | (at_builtin;refine wpList_copy_run _ rfl _ _ 23 23 rfl _ _ rfl rfl (hA2 _ _) ?_))
  go_region_held3 (fun _=>True) (exact trivial) (first | (refine z3f rfl _ _ 23 23 rfl (.slice (some ⟨w.heap.size,(k + 1) * 5,none⟩) (l.length - k) (G - (k + 1))) (.slice (some ⟨g,k * 5,none⟩) (l.length - k) (cap - k)) (by simp[Act.eval,Act.put]) (by simp[Act.eval,Act.put]) (hB2 _ _ _) ?_))
  go_wp2;go_ret;exact⟨_,rfl,FIN.out _ rfl,AW.out _ _ _ _ rfl rfl rfl rfl,.inr rfl⟩
 ·as_aux_lemma =>
  have hrz3:¬ ((cap:Int) < (l.length:Int) + 1):=by omega
  have hc63:(l.length:Int) + 1≤(cap:Int):=by omega
  have hcap63:cap≤9223372036854775807:=by unfold maxLen at hcm;omega
  have hov:∀ lb cb,(callFunc 197 #[.slice (some ⟨V,0,none⟩) 1 1,.slice (some ⟨g,(k + 1) * 5,none⟩) lb cb]).run prog w=.ok (.value (.bool false)) w:=fun lb cb=>by
   rw[run_callFunc_extern func197 (by kernel_rfl) (by kernel_rfl) (by kernel_rfl) (e:=Extern.SlicesOverlaps.overlaps #[23,23] #[4]) (by kernel_rfl),
    Lib.run_overlaps_apart w 23 4 44 underlying23 5 (fun _=>by kernel_rfl) ⟨V,0,none⟩ ⟨g,(k + 1) * 5,none⟩ 1 1 lb cb (fun e=>hgV e.symm) 44 44 ((enV x):List Value).length cur.size (by simp[World.shape?,show w.heap[V]? = _ from hV]) (by simp[World.shape?,hg]) (by rw[hcs];omega) (hV.frozen 0) (hV.frozen _)]
   rfl
  obtain⟨c1,hc1⟩:∃ c1,c1=(cur.toList.take ((k + 1) * 5)++y9 (l.drop k)++cur.toList.drop ((k + 1) * 5 + (y9 (l.drop k)).length)).toArray:=⟨_,rfl⟩;have hc1l:c1.toList.length=cap * 5:=by
   rw[hc1];simp only [List.length_append,List.length_take,List.length_drop,hct,hdl];omega
  have hc1s:c1.size=cap * 5:=by rw[← Array.length_toList];exact hc1l
  obtain⟨c2,hc2⟩:∃ c2,c2=(c1.toList.take (k * 5)++(enV x)++c1.toList.drop (k * 5 + ((enV x):List Value).length)).toArray:=⟨_,rfl⟩;have hcpA:∀ (W:World),W.heap=w.heap→∀ ty dc sc,(Builtin.copy_ #[23,23] ty #[.slice (some ⟨g,(k + 1) * 5,none⟩) (l.length - k) dc,.slice (some ⟨g,k * 5,none⟩) (l.length + 1 - k) sc]).run prog W=.ok (goInt ((l.length - k:Nat):Int)) (W.setRow g c1):=fun W hW ty dc sc=>by
   have hm:Nat.min (l.length + 1 - k) (l.length - k)=l.length - k:=Nat.min_eq_right (by omega);have hh:=z0t (P:=prog) W 23 23 ty 44 5 g ((k + 1) * 5) (l.length - k) dc ⟨g,k * 5,none⟩ (l.length + 1 - k) sc cur 44 (y9 (l.drop k)) underlying23 hsz (by rw[hW];exact hg) (by rw[hdl,hm]) (hsrc W (by rw[hW])) (by rw[hdl,hcs];omega) hmd.out;rw[hm,← hc1] at hh;exact hh
  have hcpB:∀ (W:World),W.heap=(w.setRow g c1).heap→∀ ty dc,(Builtin.copy_ #[23,23] ty #[.slice (some ⟨g,k * 5,none⟩) (l.length + 1 - k) dc,.slice (some ⟨V,0,none⟩) 1 1]).run prog W=.ok (goInt 1) (W.setRow g c2):=fun W hW ty dc=>by
   have hm:Nat.min 1 (l.length + 1 - k)=1:=Nat.min_eq_left (by omega);have hh:=z0t (P:=prog) W 23 23 ty 44 5 g (k * 5) (l.length + 1 - k) dc ⟨V,0,none⟩ 1 1 c1 44 (enV x) underlying23 hsz (by rw[hW];exact setRow_heap w g cur c1 _ _ hg) (by rw[hone,hm]) (HN.out W (by rw[hW];exact setRow_other w g V c1 (fun e=>hgV e.symm))) (by rw[hone,hc1s];omega) HO.out;rw[hm,← hc2] at hh;exact hh
  have FIN:Hid (∀ W:World,W.heap=((w.setRow g c1).setRow g c2).heap→W.ownsRow B 44 5 (.slice (some ⟨g,0,none⟩) (l.length + 1) cap) (l.take k++x :: l.drop k).length (y9 (l.take k++x :: l.drop k))):=by
   intro W hW;rw[hlen];refine z5r hBg (by rw[hW];exact setRow_heap _ _ c1 c2 _ _ (setRow_heap w g cur c1 _ _ hg)) ?_ (by omega) hcm ?_
   ·rw[hc2]
    simp only [List.size_toArray,List.length_append,List.length_take,List.length_drop,hc1l,hone];omega
   ·have e0:c1.toList.take (k * 5)=y9 (l.take k):=by
     rw[hc1];show List.take _ (_++_++_)=_;rw[List.append_assoc,List.take_append_of_le_length (by rw[List.length_take,hct];omega),List.take_take,Nat.min_eq_left (by omega)];exact htk
    have e1:c1.toList.drop (k * 5 + ((enV x):List Value).length)=y9 (l.drop k)++cur.toList.drop ((k + 1) * 5 + (y9 (l.drop k)).length):=by
     rw[hc1,hone,show k * 5 + 1 * 5=(k + 1) * 5 by omega];show List.drop _ (_++_++_)=_;rw[List.append_assoc];have hl3:(cur.toList.take ((k + 1) * 5)).length=(k + 1) * 5:=by rw[List.length_take,hct];omega
     conv=>lhs;arg 1;rw[← hl3]
     exact List.drop_left
    rw[hc2,e0,e1,← htk];exact j2b cur.toList l k x hk htk (by rw[hct];omega)
  have AW:Hid (∀ W1 W2 W3:World,W1=w.drew→W2=W1.setRow g c1→W3=W2.setRow g c2→Ap (fun b=>(Value.slice (some ⟨g,0,none⟩) l.length cap).ownBlock=some b) w W3):=by
   rintro W1 W2 W3 rfl rfl rfl;exact(((Ap.refl (fun b=>(Value.slice (some ⟨g,0,none⟩) l.length cap).ownBlock=some b) w).drew).setRow (g:=g) rfl _).setRow (g:=g) rfl _
  have hk1c2:¬ cap=k + 1:=by omega
  clear hc1 hc2 hc1l hc1s h hsrc hct hcs ht htk hdl hlen hV hg hz0 hz1 hz2 hi;have hA2:=fun ty dc sc=>hcpA w.drew rfl ty dc sc
  have hB2:=fun ty dc=>hcpB (w.drew.setRow g c1) rfl ty dc
  clear hcpA hcpB;go_enter func144,ntmps144;go_wp2_with (simp only [hov])
  go_region_held3 (fun _=>True) (exact trivial) (first | (refine z3f rfl _ _ 23 23 rfl (.slice (some ⟨g,(k + 1) * 5,none⟩) (l.length - k) (cap - (k + 1))) (.slice (some ⟨g,k * 5,none⟩) (l.length + 1 - k) (cap - k)) (by simp[Act.eval,Act.put]) (by simp[Act.eval,Act.put]) (hA2 _ _ _) ?_))
  go_wp2_with (at_builtin;refine wpList_copy_run _ rfl _ _ 23 23 rfl _ _ rfl rfl (hB2 _ _) ?_);go_ret;exact⟨_,rfl,FIN.out _ rfl,AW.out _ _ _ rfl rfl rfl,.inl rfl⟩
theorem j7f (l:List (List UInt8)) (v:Value) (K:Nat→Prop) (w:World) (hv:z0n w K v l) (hl:l.length≤1000) :
  Calls prog 141 #[v] w fun e w'=>∃ v',e=.returned v'∧w'.ownsRow w.heap.size 9 1 v' l.length (Q8 l)∧Below w.heap.size w w':=by
 obtain⟨ao,cap,rfl,hr⟩:∃ ao cap,v=.slice ao l.length cap∧z19 w K ao (Q8 l):=by
  obtain⟨ao,cap,h1,_,h2,_⟩:=hv;exact⟨ao,cap,h1,h2⟩
 have hlen:=z0u l;have q23:∀ (w:World) (a:Option Addr) (n c n' c':Nat),(binOp .eql 24 (.slice a n c) (.slice none n' c')).run prog w=.ok (.bool a.isNone) w:=fun w a n c n' c'=>Lib.run_eql_slice_nil w _ _ a n c n' c' underlying24
 cases ao with
 | none =>
  have hl0:l=[]:=by
   rcases hr with h | ⟨g,o,h,_⟩
   ·exact List.eq_nil_of_length_eq_zero (by rw[h] at hlen;simp at hlen;omega)
   ·cases h
  subst hl0;go_enter func141,ntmps141;go_wp2_with fail;go_ret;exact⟨_,rfl,World.ownsRow_nil _ _ _ _,Below.refl _ _⟩
 | some a =>
  obtain⟨i0,hi,hz0,hz1,hz2⟩:=info_parts Tryz.infoStrR;have hc:∀ j u,(Q8 l)[j]? = some u→(w.alloc (.cells #[] 9)).cell? (a.add j)=some u:=by
   intro j u hu
   rcases hr with h | ⟨g,o,h,_,h3⟩
   ·rw[h] at hu;cases hu
   ·injection h with h
    subst h;rw[z1m];exact Lib.cell?_alloc_some _ (h3 j u hu)
  have HC:=Ld hc;have HOM:=Ld (q1k l);clear hc hr;go_enter func141,ntmps141;go_wp2_with (at_builtin;refine wpList_append_own _ rfl _ _ 24 rfl w.heap.size 9 i0 (.string ⟨#[]⟩) 1 16 underlying24 hi hz0 hz1 hz2 rfl (by decide) _ _ _ rfl (World.ownsRow_made w #[] 0 (Lr) (Nat.zero_le _) rfl) a l.length cap (Q8 l) rfl hlen HC.out HOM.out (by unfold maxLen;omega) (by omega) (by simp) ?_);intro v' w1 hown hgrow hnil;have OW:=Ld hown;have HGR:=Ld hgrow;clear hown hgrow hnil;go_wp2_with fail;go_ret;refine⟨v',rfl,by simpa using OW.out,?_⟩;exact((Below.refl _ w).alloc (Lr) _).grown HGR.out (by simp) (by intro k hk;simp[Value.ownBlock] at hk;omega)
theorem j1p (cur:List Value) (l:List (List UInt8)) (i j:Nat) (hij:i < j) (hj:j≤l.length) (h:cur.take (l.length * 1)=Q8 l) :
  ((cur.take (i * 1)++Q8 (l.drop j)++cur.drop (i * 1 + (Q8 (l.drop j)).length)).take ((i + (l.length - j)) * 1))=Q8 (l.take i++l.drop j):=by
 have hl:l.length * 1≤cur.length:=by
  have:=congrArg List.length h;rw[List.length_take,z0u] at this;omega
 have e1:cur.take (i * 1)=Q8 (l.take i):=by
  rw[← q3l,← h,List.take_take,Nat.min_eq_left (by omega)]
 rw[e1,← z6r];rw[List.take_append_of_le_length (by rw[z0u,List.length_append,List.length_take,List.length_drop];omega)];exact List.take_of_length_le (by rw[z0u,List.length_append,List.length_take,List.length_drop];omega)
theorem j3b (l:List (List UInt8)) (i j:Nat) (hij:i < j) (hj:j≤l.length) (hl:l.length≤1000) (B:Nat) (v:Value) (w:World) (h:w.ownsRow B 9 1 v l.length (Q8 l)) :
  Calls prog 89 #[v,.int .i64 i,.int .i64 j] w fun e w'=>∃ v',e=.returned v'∧w'.ownsRow B 9 1 v' (l.take i++l.drop j).length (Q8 (l.take i++l.drop j))∧Ap (fun b=>v.ownBlock=some b) w w'∧v'.ownBlock=v.ownBlock:=by
 obtain⟨g,cap,cur,rfl,hg,hcs,hnc,hcm,hB,ht,_⟩:=z8o h (by omega);obtain⟨i0,hi,hz0,hz1,hz2⟩:=info_parts Tryz.infoStrR;have hjc:j≤cap:=by omega
 have hic:i≤cap:=by omega
 have hin:i≤l.length:=by omega
 have hlen:(l.take i++l.drop j).length=i + (l.length - j):=by rw[List.length_append,List.length_take,List.length_drop];omega
 have hnl:(Q8 (l.drop j)).length=(l.length - j) * 1:=by rw[z0u,List.length_drop]
 obtain⟨A,hA,hsrc⟩:∃ A:Addr,(if cap=j then some (⟨g,0,none⟩:Addr) else some ⟨g,j,none⟩)=some A∧Hid (∀ t u,(Q8 (l.drop j))[t]? = some u→w.drew.cell? (A.add t)=some u):=by
  by_cases q:cap=j
  ·refine⟨⟨g,0,none⟩,by simp[q],fun t u hu=>?_⟩
   have h0:(Q8 (l.drop j)).length=0:=by rw[hnl];omega
   rw[List.length_eq_zero_iff.1 h0] at hu;simp at hu
  ·refine⟨⟨g,j,none⟩,by simp[q],fun t u hu=>?_⟩
   rw[z1m];have e:(Q8 (l.drop j))[t]? = cur[j + t]?:=by
    have hlt:t < (Q8 (l.drop j)).length:=(List.getElem?_eq_some_iff.1 hu).1;rw[← q3k,← ht,List.getElem?_drop,List.getElem?_take,if_pos (by omega),Array.getElem?_toList];rw[Nat.mul_one]
   rw[e] at hu;exact(cell_of_row w g _ cur _ _ hg).trans hu
 have HOM:=Ld (q1k (l.drop j));have hfit:i * 1 + (Q8 (l.drop j)).length≤cur.size:=by rw[hnl,hcs];omega
 have HNL:=Ld hnl;obtain⟨W1,hW1⟩:∃ W1,W1=w.drew.setRow g (cur.toList.take (i * 1)++Q8 (l.drop j)++cur.toList.drop (i * 1 + (Q8 (l.drop j)).length)).toArray:=⟨_,rfl⟩;have hg1:W1.heap[g]? = some (.cells (cur.toList.take (i * 1)++Q8 (l.drop j)++cur.toList.drop (i * 1 + (Q8 (l.drop j)).length)).toArray 9 (0,0)):=by rw[hW1];exact setRow_heap w.drew g cur _ _ _ hg
 have hcl1:((cur.toList.take (i * 1)++Q8 (l.drop j)++cur.toList.drop (i * 1 + (Q8 (l.drop j)).length)).toArray).size=cur.size:=by
  rw[List.size_toArray,List.length_append,List.length_append,List.length_take,List.length_drop,Array.length_toList];omega
 have hdc:=j1p cur.toList l i j hij hj ht;have HW:Hid (W1=w.drew.setRow g (cur.toList.take (i * 1)++Q8 (l.drop j)++cur.toList.drop (i * 1 + (Q8 (l.drop j)).length)).toArray):=hW1;have AP:Hid (Ap (fun b=>(Value.slice (some ⟨g,0,none⟩) l.length cap).ownBlock=some b) w W1):=by show Ap _ _ _;rw[hW1];exact((Ap.refl (fun b=>(Value.slice (some ⟨g,0,none⟩) l.length cap).ownBlock=some b) w).drew).setRow (g:=g) rfl _
 have hcl:=z4p (P:=prog) W1 24 9 0 (.string ⟨#[]⟩) 1 underlying24 zero_str rfl (by intro u hu;simp[Value.cells] at hu;subst hu;rfl) (by decide) g ((i + (l.length - j)) * 1) (l.length - (i + (l.length - j))) (cap - (i + (l.length - j))) (by omega) _ _ hg1 (by rw[hcl1,hcs];omega);obtain⟨c1,hc1⟩:∃ c1,c1=(cur.toList.take (i * 1)++Q8 (l.drop j)++cur.toList.drop (i * 1 + (Q8 (l.drop j)).length)).toArray:=⟨_,rfl⟩;rw[← hc1] at hg1 hcl1 hcl;have hdc2:c1.toList.take ((i + (l.length - j)) * 1)=Q8 (l.take i++l.drop j):=by rw[hc1];exact hdc
 have hcz:c1.size=cap * 1:=hcl1.trans hcs;have hct:c1.toList.length=cap * 1:=by rw[Array.length_toList];exact hcz
 obtain⟨c2,hc2⟩:∃ c2,c2=(c1.toList.take ((i + (l.length - j)) * 1)++(Builtin.zeroCells ((.string ⟨#[]⟩):Value).cells (l.length - (i + (l.length - j)))).toList++c1.toList.drop ((i + (l.length - j)) * 1 + (l.length - (i + (l.length - j))) * 1)).toArray:=⟨_,rfl⟩;have hcl2:∀ ty,(Builtin.clear_ #[24] ty #[.slice (some ⟨g,(i + (l.length - j)) * 1,none⟩) (l.length - (i + (l.length - j))) (cap - (i + (l.length - j)))]).run prog W1=.ok (.tuple #[]) (W1.setRow g c2):=fun ty=>by rw[hc2];exact hcl
 have FIN:Hid (∀ W2,W2=W1.setRow g c2→W2.ownsRow B 9 1 (.slice (some ⟨g,0,none⟩) (i + (l.length - j)) cap) (l.take i++l.drop j).length (Q8 (l.take i++l.drop j))∧Ap (fun b=>(Value.slice (some ⟨g,0,none⟩) l.length cap).ownBlock=some b) w W2):=by
  rintro W2 rfl;subst hc2;refine⟨?_,AP.out.setRow (g:=g) rfl _⟩;rw[hlen];refine z5r hB (setRow_heap W1 g c1 _ _ _ hg1) ?_ (by omega) hcm ?_
  ·simp only [List.size_toArray,List.length_append,List.length_take,List.length_drop,Array.length_toList,size_zeroCells,show ((.string ⟨#[]⟩):Value).cells.size=1 from rfl,hcz];omega
  ·rw[List.append_assoc,List.take_append_of_le_length (by rw[List.length_take,hct];omega),List.take_take,Nat.min_self]
   exact hdc2
 have hcl':∀ ty,(Builtin.clear_ #[24] ty #[.slice (some ⟨g,(i + (l.length - j)),none⟩) (l.length - (i + (l.length - j))) (cap - (i + (l.length - j)))]).run prog W1=.ok (.tuple #[]) (W1.setRow g c2):=fun ty=>by
  have:=hcl2 ty;rw[Nat.mul_one] at this;exact this
 have hnj:i + (l.length - j)≤l.length:=by omega
 have hnk:¬ cap=i + (l.length - j):=by omega
 clear hcl hcl2 hc2 h hdc hg1 hcl1 hcs ht hW1 hc1 hdc2 hcz hct hlen hnl AP;go_enter func89,ntmps89;go_wp2_with fail
 go_region_law (refine z6q rfl (.tmp 22) (.tmp 25) 24 rfl 9 i0 1 underlying24 hi hz1 g i cap (by simp[Act.eval,Act.put]) cur hg A (l.length - j) (cap - j) (Q8 (l.drop j)) (by simp[Act.eval,Act.put]) HNL.out hsrc.out HOM.out (by omega) hfit ?_;rw[← HW.out])
 go_wp2;go_ret;obtain⟨F1,F2⟩:=FIN.out _ rfl;exact⟨_,rfl,F1,F2,rfl⟩
end Go.Proofs.YtjonkbdldebkiaaGreatDoor
