/- Contracts of slices.Clone and slices.Delete over entries. Condition: at most 1000 entries. -/
import Derived.Test.YtjonkbdldebkiaaGreatDoorYWkRow
import Derived.Test.YtjonkbdldebkiaaGreatDoorYWfJ
import Derived.Lib.SliceRun
set_option linter.unusedVariables false
set_option linter.unusedSimpArgs false
set_option maxHeartbeats 4000000
set_option maxRecDepth 100000
namespace Go.Proofs.YtjonkbdldebkiaaGreatDoor
open Go.Proofs.Tryz Go.RowKit
theorem j7e (l:List Fd.En) (v:Value) (K:Nat→Prop) (w:World) (hv:z18 w K v l) (hl:l.length≤1000) :
  Calls prog 140 #[v] w fun e w'=>∃ v',e=.returned v'∧w'.ownsRow w.heap.size 44 5 v' l.length (y9 l)∧Below w.heap.size w w':=by
 obtain⟨ao,cap,rfl,hr⟩:∃ ao cap,v=.slice ao l.length cap∧z19 w K ao (y9 l):=by
  obtain⟨ao,cap,h1,h2,_⟩:=hv;exact⟨ao,cap,h1,h2⟩
 have hlen:=Y9 l;have q23:∀ (w:World) (a:Option Addr) (n c n' c':Nat),(binOp .eql 23 (.slice a n c) (.slice none n' c')).run prog w=.ok (.bool a.isNone) w:=fun w a n c n' c'=>Lib.run_eql_slice_nil w _ _ a n c n' c' underlying23
 cases ao with
 | none =>
  have hl0:l=[]:=by
   rcases hr with h | ⟨g,o,h,_⟩
   ·exact List.eq_nil_of_length_eq_zero (by rw[h] at hlen;simp at hlen;omega)
   ·cases h
  subst hl0;go_enter func140,ntmps140;go_wp2_with fail;go_ret;exact⟨_,rfl,World.ownsRow_nil _ _ _ _,Below.refl _ _⟩
 | some a =>
  obtain⟨i0,hi,hz0,hz1,hz2⟩:=info_parts Tryz.infoEntry;have hc:∀ j u,(y9 l)[j]? = some u→(w.alloc (.cells #[] 44)).cell? (a.add j)=some u:=by
   intro j u hu
   rcases hr with h | ⟨g,o,h,_,h3⟩
   ·rw[h] at hu;cases hu
   ·injection h with h
    subst h;rw[z1m];exact Lib.cell?_alloc_some _ (h3 j u hu)
  have HC:=Ld hc;have HOM:=Ld (z6k l);clear hc hr;go_enter func140,ntmps140;go_wp2_with (at_builtin;refine wpList_append_own _ rfl _ _ 23 rfl w.heap.size 44 i0 (.agg #[.string ⟨#[]⟩,.string ⟨#[]⟩,.string ⟨#[]⟩,.int .i64 0,.string ⟨#[]⟩]) 5 72 underlying23 hi hz0 hz1 hz2 rfl (by decide) _ _ _ rfl (World.ownsRow_made w #[] 0 (Lr) (Nat.zero_le _) rfl) a l.length cap (y9 l) rfl hlen HC.out HOM.out (by unfold maxLen;omega) (by omega) (by simp) ?_);intro v' w1 hown hgrow hnil;have OW:=Ld hown;have HGR:=Ld hgrow;clear hown hgrow hnil;go_wp2_with fail;go_ret;refine⟨v',rfl,by simpa using OW.out,?_⟩;exact((Below.refl _ w).alloc (Lr) _).grown HGR.out (by simp) (by intro k hk;simp[Value.ownBlock] at hk;omega)
theorem j1o (cur:List Value) (l:List Fd.En) (i j:Nat) (hij:i < j) (hj:j≤l.length) (h:cur.take (l.length * 5)=y9 l) :
  ((cur.take (i * 5)++y9 (l.drop j)++cur.drop (i * 5 + (y9 (l.drop j)).length)).take ((i + (l.length - j)) * 5))=y9 (l.take i++l.drop j):=by
 have hl:l.length * 5≤cur.length:=by
  have:=congrArg List.length h;rw[List.length_take,Y9] at this;omega
 have e1:cur.take (i * 5)=y9 (l.take i):=by
  rw[← z3d,← h,List.take_take,Nat.min_eq_left (by omega)]
 rw[e1,← z1h];rw[List.take_append_of_le_length (by rw[Y9,List.length_append,List.length_take,List.length_drop];omega)];exact List.take_of_length_le (by rw[Y9,List.length_append,List.length_take,List.length_drop];omega)
theorem j3a (l:List Fd.En) (i j:Nat) (hij:i < j) (hj:j≤l.length) (hl:l.length≤1000) (B:Nat) (v:Value) (w:World) (h:w.ownsRow B 44 5 v l.length (y9 l)) :
  Calls prog 142 #[v,.int .i64 i,.int .i64 j] w fun e w'=>∃ v',e=.returned v'∧w'.ownsRow B 44 5 v' (l.take i++l.drop j).length (y9 (l.take i++l.drop j))∧Ap (fun b=>v.ownBlock=some b) w w'∧v'.ownBlock=v.ownBlock:=by
 obtain⟨g,cap,cur,rfl,hg,hcs,hnc,hcm,hB,ht,_⟩:=z8o h (by omega);obtain⟨i0,hi,hz0,hz1,hz2⟩:=info_parts Tryz.infoEntry;have hjc:j≤cap:=by omega
 have hic:i≤cap:=by omega
 have hin:i≤l.length:=by omega
 have hlen:(l.take i++l.drop j).length=i + (l.length - j):=by rw[List.length_append,List.length_take,List.length_drop];omega
 have hnl:(y9 (l.drop j)).length=(l.length - j) * 5:=by rw[Y9,List.length_drop]
 obtain⟨A,hA,hsrc⟩:∃ A:Addr,(if cap=j then some (⟨g,0,none⟩:Addr) else some ⟨g,j * 5,none⟩)=some A∧Hid (∀ t u,(y9 (l.drop j))[t]? = some u→w.drew.cell? (A.add t)=some u):=by
  by_cases q:cap=j
  ·refine⟨⟨g,0,none⟩,by simp[q],fun t u hu=>?_⟩
   have h0:(y9 (l.drop j)).length=0:=by rw[hnl];omega
   rw[List.length_eq_zero_iff.1 h0] at hu;simp at hu
  ·refine⟨⟨g,j * 5,none⟩,by simp[q],fun t u hu=>?_⟩
   rw[z1m];have e:(y9 (l.drop j))[t]? = cur[j * 5 + t]?:=by
    have hlt:t < (y9 (l.drop j)).length:=(List.getElem?_eq_some_iff.1 hu).1;rw[← z8h,← ht,List.getElem?_drop,List.getElem?_take,if_pos (by omega),Array.getElem?_toList]
   rw[e] at hu;exact(cell_of_row w g _ cur _ _ hg).trans hu
 have HOM:=Ld (z6k (l.drop j));have hfit:i * 5 + (y9 (l.drop j)).length≤cur.size:=by rw[hnl,hcs];omega
 have HNL:=Ld hnl;obtain⟨W1,hW1⟩:∃ W1,W1=w.drew.setRow g (cur.toList.take (i * 5)++y9 (l.drop j)++cur.toList.drop (i * 5 + (y9 (l.drop j)).length)).toArray:=⟨_,rfl⟩;have hg1:W1.heap[g]? = some (.cells (cur.toList.take (i * 5)++y9 (l.drop j)++cur.toList.drop (i * 5 + (y9 (l.drop j)).length)).toArray 44 (0,0)):=by rw[hW1];exact setRow_heap w.drew g cur _ _ _ hg
 have hcl1:((cur.toList.take (i * 5)++y9 (l.drop j)++cur.toList.drop (i * 5 + (y9 (l.drop j)).length)).toArray).size=cur.size:=by
  rw[List.size_toArray,List.length_append,List.length_append,List.length_take,List.length_drop,Array.length_toList];omega
 have hdc:=j1o cur.toList l i j hij hj ht;have HW:Hid (W1=w.drew.setRow g (cur.toList.take (i * 5)++y9 (l.drop j)++cur.toList.drop (i * 5 + (y9 (l.drop j)).length)).toArray):=hW1;have AP:Hid (Ap (fun b=>(Value.slice (some ⟨g,0,none⟩) l.length cap).ownBlock=some b) w W1):=by show Ap _ _ _;rw[hW1];exact((Ap.refl (fun b=>(Value.slice (some ⟨g,0,none⟩) l.length cap).ownBlock=some b) w).drew).setRow (g:=g) rfl _
 have hcl:=z4p (P:=prog) W1 23 44 0 (.agg #[.string ⟨#[]⟩,.string ⟨#[]⟩,.string ⟨#[]⟩,.int .i64 0,.string ⟨#[]⟩]) 5 underlying23 q3s rfl (by intro u hu;simp[Value.cells] at hu;rcases hu with rfl | rfl | rfl | rfl | rfl <;> rfl) (by decide) g ((i + (l.length - j)) * 5) (l.length - (i + (l.length - j))) (cap - (i + (l.length - j))) (by omega) _ _ hg1 (by rw[hcl1,hcs];omega);obtain⟨c1,hc1⟩:∃ c1,c1=(cur.toList.take (i * 5)++y9 (l.drop j)++cur.toList.drop (i * 5 + (y9 (l.drop j)).length)).toArray:=⟨_,rfl⟩;rw[← hc1] at hg1 hcl1 hcl;have hdc2:c1.toList.take ((i + (l.length - j)) * 5)=y9 (l.take i++l.drop j):=by rw[hc1];exact hdc
 have hcz:c1.size=cap * 5:=hcl1.trans hcs;have hct:c1.toList.length=cap * 5:=by rw[Array.length_toList];exact hcz
 obtain⟨c2,hc2⟩:∃ c2,c2=(c1.toList.take ((i + (l.length - j)) * 5)++(Builtin.zeroCells ((.agg #[.string ⟨#[]⟩,.string ⟨#[]⟩,.string ⟨#[]⟩,.int .i64 0,.string ⟨#[]⟩]):Value).cells (l.length - (i + (l.length - j)))).toList++c1.toList.drop ((i + (l.length - j)) * 5 + (l.length - (i + (l.length - j))) * 5)).toArray:=⟨_,rfl⟩;have hcl2:∀ ty,(Builtin.clear_ #[23] ty #[.slice (some ⟨g,(i + (l.length - j)) * 5,none⟩) (l.length - (i + (l.length - j))) (cap - (i + (l.length - j)))]).run prog W1=.ok (.tuple #[]) (W1.setRow g c2):=fun ty=>by rw[hc2];exact hcl
 have FIN:Hid (∀ W2,W2=W1.setRow g c2→W2.ownsRow B 44 5 (.slice (some ⟨g,0,none⟩) (i + (l.length - j)) cap) (l.take i++l.drop j).length (y9 (l.take i++l.drop j))∧Ap (fun b=>(Value.slice (some ⟨g,0,none⟩) l.length cap).ownBlock=some b) w W2):=by
  rintro W2 rfl;subst hc2;refine⟨?_,AP.out.setRow (g:=g) rfl _⟩;rw[hlen];refine z5r hB (setRow_heap W1 g c1 _ _ _ hg1) ?_ (by omega) hcm ?_
  ·simp only [List.size_toArray,List.length_append,List.length_take,List.length_drop,Array.length_toList,size_zeroCells,show ((.agg #[.string ⟨#[]⟩,.string ⟨#[]⟩,.string ⟨#[]⟩,.int .i64 0,.string ⟨#[]⟩]):Value).cells.size=5 from rfl,hcz];omega
  ·rw[List.append_assoc,List.take_append_of_le_length (by rw[List.length_take,hct];omega),List.take_take,Nat.min_self]
   exact hdc2
 have hcl':∀ ty,(Builtin.clear_ #[23] ty #[.slice (some ⟨g,(i + (l.length - j)) * 5,none⟩) (l.length - (i + (l.length - j))) (cap - (i + (l.length - j)))]).run prog W1=.ok (.tuple #[]) (W1.setRow g c2):=hcl2;have hnj:i + (l.length - j)≤l.length:=by omega
 have hnk:¬ cap=i + (l.length - j):=by omega
 clear hcl hcl2 hc2 h hdc hg1 hcl1 hcs ht hW1 hc1 hdc2 hcz hct hlen hnl AP;go_enter func142,ntmps142;go_wp2_with fail
 go_region_law (refine z6q rfl (.tmp 22) (.tmp 25) 23 rfl 44 i0 5 underlying23 hi hz1 g i cap (by simp[Act.eval,Act.put]) cur hg A (l.length - j) (cap - j) (y9 (l.drop j)) (by simp[Act.eval,Act.put]) HNL.out hsrc.out HOM.out (by omega) hfit ?_;rw[← HW.out])
 go_wp2;go_ret;obtain⟨F1,F2⟩:=FIN.out _ rfl;exact⟨_,rfl,F1,F2,rfl⟩
end Go.Proofs.YtjonkbdldebkiaaGreatDoor
