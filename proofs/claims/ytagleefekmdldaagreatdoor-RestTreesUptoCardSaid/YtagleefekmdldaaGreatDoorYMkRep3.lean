/- Contract of strings.NewReplacer at the four signs. -/
import Derived.Test.YtagleefekmdldaaGreatDoorYMkRep1
import Derived.Test.YtagleefekmdldaaGreatDoorYMkTok7
import Derived.Deep.WholeRow
import Derived.Great.Walk
import Derived.Lib.ConvBytes
set_option linter.unusedVariables false
set_option linter.unusedSimpArgs false
set_option maxHeartbeats 1600000
set_option maxRecDepth 100000
namespace Mk
def reps:List (UInt8 × Bs):=[(38,[38,97,109,112,59]),(60,[38,108,116,59]),(62,[38,103,116,59]),(34,[38,113,117,111,116,59])]
def olds:List Bs:=[[38],[38,97,109,112,59],[60],[38,108,116,59],[62],[38,103,116,59],[34],[38,113,117,111,116,59]]
theorem olds_at (k:Nat) (h:k < 4):∃ c n,reps[k]? = some (c,n)∧olds[2 * k]? = some [c]∧olds[2 * k + 1]? = some n∧4≤n.length∧n.length≤6:=by
 match k,h with
 | 0,_=>exact⟨_,_,rfl,rfl,rfl,by decide,by decide⟩
 | 1,_=>exact⟨_,_,rfl,rfl,rfl,by decide,by decide⟩
 | 2,_=>exact⟨_,_,rfl,rfl,rfl,by decide,by decide⟩
 | 3,_=>exact⟨_,_,rfl,rfl,rfl,by decide,by decide⟩
theorem q03 (b:UInt8):esc b=(reps.lookup b).getD [b]:=by
 unfold esc reps
 by_cases h1:b=38
 ·subst h1;rfl
 by_cases h2:b=60
 ·subst h2;rfl
 by_cases h3:b=62
 ·subst h3;rfl
 by_cases h4:b=34
 ·subst h4;rfl
 have q:∀ x:UInt8,b ≠ x→(b == x)=false:=fun x h=>by simpa using h
 simp[List.lookup,q _ h1,q _ h2,q _ h3,q _ h4,h1,h2,h3,h4]
end Mk
namespace Go.Proofs.YtagleefekmdldaaGreatDoor
open Go.Proofs.Tryz Go.RowKit
theorem z6x (A:Nat) (w:World) (hA:∀ (j:Nat) (u:Value),(z09 Mk.olds)[j]? = some u→w.cell? ((⟨A,0,none⟩:Addr).add j)=some u) :
  Calls prog 134 #[.slice (some ⟨A,0,none⟩) 8 8] w fun e w'=>∃ R ao cap,e=.returned (.pointer (some ⟨R,0,none⟩))∧w.heap.size≤R∧Blk w' R 181 #[.int .u32 0,.int .i32 0,.int .u32 0,.nilIface,.slice ao 8 cap]∧w'.ownsRow w.heap.size 9 1 (.slice ao 8 cap) 8 (z09 Mk.olds)∧(Value.slice ao 8 cap).ownBlock ≠ some R∧Below w.heap.size w w':=by
 have HA:=Ld hA;obtain⟨i0,hi,hz0,hz1,hz2⟩:=info_parts Tryz.infoStr;clear hA;go_enter func134,ntmps134;go_wp2_with (at_builtin;refine wpList_append_own _ rfl _ _ 105 rfl w.heap.size 9 i0 (.string ⟨#[]⟩) 1 16 underlying105 hi hz0 hz1 hz2 rfl (by decide) _ _ _ rfl (World.ownsRow_nil w _ _ _) ⟨A,0,none⟩ 8 8 (z09 Mk.olds) rfl rfl HA.out (by intro u hu;simp[z09,Mk.olds] at hu;rcases hu with rfl | rfl | rfl | rfl | rfl | rfl | rfl | rfl <;> rfl) (by decide) (by decide) (by simp) ?_);intro v' w1 hown hgrow hnil;obtain⟨ao,cap,rfl⟩:=Y1 hown;have hb:=((Below.refl _ w).grown hgrow (Lr) (by intro k hk;cases hk));have HE:=Ld (And.intro hgrow.size (And.intro (Blk.new w1 181 #[.int .u32 0,.int .i32 0,.int .u32 0,.nilIface,.slice ao 8 cap]) (And.intro (X8 hown ((Ap.refl (fun _=>False) w1).alloc (.cells #[.int .u32 0,.int .i32 0,.int .u32 0,.nilIface,.slice ao 8 cap] 181)) (fun _ _ q=>q)) (And.intro (fun e=>by have:=(hown.lt _ e).2;omega:(Value.slice ao 8 cap).ownBlock ≠ some w1.heap.size) (hb.alloc hb.size (.cells #[.int .u32 0,.int .i32 0,.int .u32 0,.nilIface,.slice ao 8 cap] 181))))));clear hown hgrow hnil hb hi hz0 hz1 hz2 HA;go_wp2_with fail;go_ret;exact⟨w1.heap.size,ao,cap,rfl,HE.out⟩
def repC (s:Value):Array Value:=(Array.replicate 256 (.slice none 0 0)).push s
theorem q6l (a:Option Addr) (n c:Nat):prog.built 214 [(1,.slice a n c)]=some (repC (.slice a n c)):=by kernel_rfl
theorem q9m:(prog.info? 214).map (fun i=>(i.zero,i.size))=some (some (.agg (repC (.slice none 0 0))),257):=by kernel_rfl
theorem rep_size (s:Value):(repC s).size=257:=by simp[repC]
theorem rep_one (a:Option Addr) (n c:Nat):(repC (.slice a n c)).all (·.oneCell')=true:=by
 rw[Array.all_eq_true_iff_forall_mem];intro u hu;unfold repC at hu
 rcases Array.mem_push.1 hu with q | q
 ·rw[(Array.mem_replicate.1 q).2];rfl
 ·rw[q];rfl
theorem j6d (ρ:Operand→Value) (o:Oper) (ho:o.op=.alloc 214) (w:World):(execOp ρ o).run prog w=.ok (.value (.pointer (some ⟨w.heap.size,0,none⟩))) (w.alloc (.cells (repC (.slice none 0 0)) 214)):=by
 obtain⟨hz,hs⟩:=zero_of_info q9m;unfold execOp;simp[ho,Instr.alloc,hz,Sem.run_bind,Result.andThen,newVar,Value.cells];rfl
def q8y (w:World) (K:Nat→Prop) (v:Value) (l:List UInt8):Prop:=∃ g cap,v=.slice (some ⟨g,0,none⟩) l.length cap∧K g∧∀ (i:Nat) (u:Value),(Lib.byteCells l)[i]? = some u→w.cell? ⟨g,i,none⟩=some u
def RepC (w:World) (K:Nat→Prop) (m:List (UInt8 × List UInt8)) (cs:Array Value):Prop:=∀ b:UInt8,(m.lookup b=none→cs[b.toNat]? = some (.slice none 0 0))∧∀ l,m.lookup b=some l→∃ v,cs[b.toNat]? = some v∧q8y w K v l
def RepB (w:World) (B N k:Nat):Prop:=∃ (cs:Array Value) (ao:Option Addr) (cap:Nat) (xs:List Value) (K:Nat→Prop),Blk w N 214 cs∧cs.size=257∧cs[256]? = some (.slice ao (4 - k) cap)∧w.ownsRow B 9 1 (.slice ao (4 - k) cap) (4 - k) xs∧(Value.slice ao (4 - k) cap).ownBlock ≠ some N∧(∀ g,K g→B≤g∧g < w.heap.size∧g ≠ N∧(Value.slice ao (4 - k) cap).ownBlock ≠ some g)∧xs=z09 ((Mk.reps.drop k).reverse.map fun x=>[x.1])∧RepC w K (Mk.reps.drop k) cs
theorem repB_new {w1:World} {B:Nat} (hown:w1.ownsRow B 9 1 (.slice (some ⟨B,0,none⟩) 0 4) 0 []) (hB:B≤w1.heap.size):RepB (w1.alloc (.cells (repC (.slice (some ⟨B,0,none⟩) 0 4)) 214)) B w1.heap.size 4:=by
 refine⟨repC (.slice (some ⟨B,0,none⟩) 0 4),some ⟨B,0,none⟩,4,[],fun _=>False,Blk.new w1 _ _,rep_size _,?_,X8 hown ((Ap.refl (fun _=>False) w1).alloc _) (fun _ _ q=>q),?_,fun _ q=>q.elim,rfl,?_⟩
 ·unfold repC
  rw[Array.getElem?_push,if_pos (by simp)]
 ·intro e
  have:=(hown.lt _ e).2;omega
 ·intro b
  refine⟨fun _=>?_,fun l e=>by cases e⟩;have hb:=b.toNat_lt;unfold repC;rw[Array.getElem?_push,if_neg (by simp;omega),Array.getElem?_replicate,if_pos (by omega)]
theorem below_bytesWorld (w:World) (e:TypeId) (s:ByteArray):Below w.heap.size w (Lib.bytesWorld w e s) :=
 ⟨by simp[Lib.bytesWorld,World.freeze,World.alloc,World.drew,-World.alloc_eq,-World.drew_eq],by simp[Lib.bytesWorld,World.freeze,World.alloc,World.drew,-World.alloc_eq,-World.drew_eq],by simp[Lib.bytesWorld,World.freeze,World.alloc,World.drew,-World.alloc_eq,-World.drew_eq],by rw[Lib.bytesWorld_size];omega,fun k hk=>Lib.bytesWorld_at_old w e s k hk⟩
theorem q8y.frame {w w':World} {K K':Nat→Prop} {v:Value} {l:List UInt8} (h:q8y w K v l) (hk:∀ b,K b→K' b∧w'.heap[b]? = w.heap[b]?):q8y w' K' v l:=by
 obtain⟨g,cap,h1,h2,h3⟩:=h;exact⟨g,cap,h1,(hk g h2).1,fun i u q=>(cell_of_block (hk g h2).2 _).trans (h3 i u q)⟩
theorem j6e {j:Nat} {c:UInt8} {n:List UInt8} (h:Mk.reps[j]? = some (c,n)):Mk.reps.drop j=(c,n) :: Mk.reps.drop (j + 1):=by
 have hj:j < Mk.reps.length:=by
  rcases Nat.lt_or_ge j Mk.reps.length with q | q
  ·exact q
  ·rw[List.getElem?_eq_none q] at h;cases h
 rw[List.drop_eq_getElem_cons hj];rw[List.getElem?_eq_getElem hj] at h;injection h with h;rw[h]
theorem RepB.step {w w10:World} {B N j m:Nat} {c:UInt8} {n:List UInt8} {cs:Array Value} {ao ao':Option Addr} {capr cap' cap9:Nat} {xs:List Value} {K:Nat→Prop} (hj:Mk.reps[j]? = some (c,n)) (hlk:(Mk.reps.drop (j + 1)).lookup c=none)
  (hcs:cs.size=257) (hown:w.ownsRow B 9 1 (.slice ao m capr) m xs) (hm:4 - j=m + 1) (hNl:N < w.heap.size)
  (hK:∀ g,K g→B≤g∧g < w.heap.size∧g ≠ N∧(Value.slice ao m capr).ownBlock ≠ some g) (hxs:xs=z09 ((Mk.reps.drop (j + 1)).reverse.map fun x=>[x.1])) (hrc:RepC w K (Mk.reps.drop (j + 1)) cs) (hBw:B≤w.heap.size)
  (hkeep:∀ b,b < w.heap.size→(Value.slice ao m capr).ownBlock ≠ some b→b ≠ N→w10.heap[b]? = w.heap[b]?) (hN10:Blk w10 N 214 (cs.setIfInBounds 256 (.slice ao' (m + 1) cap'))) (hrow:w10.ownsRow B 9 1 (.slice ao' (m + 1) cap') (m + 1) (xs++[.string (st [c])]))
  (hvN:(Value.slice ao' (m + 1) cap').ownBlock ≠ some N) (hfr:∀ g,(Value.slice ao' (m + 1) cap').ownBlock=some g→g < w.heap.size→(Value.slice ao m capr).ownBlock=some g) (hs:w.heap.size≤w10.heap.size) :
  RepB ((Lib.bytesWorld w10 5 (st n)).setCell ⟨N,c.toNat,none⟩ (.slice (some ⟨w10.heap.size,0,none⟩) n.length cap9)) B N j:=by
 have hdr:=j6e hj;have hc7:=c.toNat_lt;have hsz:((Lib.bytesWorld w10 5 (st n)).setCell ⟨N,c.toNat,none⟩ (.slice (some ⟨w10.heap.size,0,none⟩) n.length cap9)).heap.size=w10.heap.size + 1:=by
  have:=Lib.bytesWorld_size w10 5 (st n)
  simpa [World.setCell] using this
 have hold:∀ b,b < w10.heap.size→b ≠ N→((Lib.bytesWorld w10 5 (st n)).setCell ⟨N,c.toNat,none⟩ (.slice (some ⟨w10.heap.size,0,none⟩) n.length cap9)).heap[b]? = w10.heap[b]?:=fun b q1 q2=>(Below.heap_setCell _ ⟨N,c.toNat,none⟩ _ b q2).trans (Lib.bytesWorld_at_old w10 5 (st n) b q1)
 have hblk:Blk (Lib.bytesWorld w10 5 (st n)) N 214 (cs.setIfInBounds 256 (.slice ao' (m + 1) cap')):=(Lib.bytesWorld_at_old w10 5 (st n) N (by omega)).trans hN10;rw[hm.symm] at hrow hvN hfr hblk;have hrest:∀ b,K b→(K b∨b=w10.heap.size)∧((Lib.bytesWorld w10 5 (st n)).setCell ⟨N,c.toNat,none⟩ (.slice (some ⟨w10.heap.size,0,none⟩) n.length cap9)).heap[b]? = w.heap[b]?:=fun b q=>⟨.inl q,(hold b (Nat.lt_of_lt_of_le (hK b q).2.1 hs) (hK b q).2.2.1).trans (hkeep b (hK b q).2.1 (hK b q).2.2.2 (hK b q).2.2.1)⟩
 refine⟨_,ao',cap',xs++[.string (st [c])],fun b=>K b∨b=w10.heap.size,Blk.set_ hblk c.toNat _,by simp[hcs],?_,?_,hvN,?_,?_,?_⟩
 ·rw[Array.getElem?_setIfInBounds_ne (by omega),Array.getElem?_setIfInBounds_self_of_lt (by omega)]
 ·exact z0f (by rw[hm];rw[hm] at hrow;exact hrow) (fun g e=>hold g (hrow.lt g (by rw[← e,hm])).2 (fun q=>hvN (by rw[e,q])))
 ·rintro b (q | q)
  ·refine⟨(hK b q).1,by rw[hsz];have:=(hK b q).2.1;omega,(hK b q).2.2.1,fun e=>?_⟩
   exact(hK b q).2.2.2 (hfr b e (hK b q).2.1)
  ·subst q
   refine⟨by omega,by rw[hsz];omega,by omega,fun e=>?_⟩;have:=(hrow.lt _ e).2;omega
 ·rw[hdr,hxs]
  simp[z09]
 ·rw[hdr]
  intro b
  by_cases hbc:b=c
  ·subst hbc
   refine⟨fun e=>by simp[List.lookup] at e,fun l e=>?_⟩;have e:some n=some l:=by simpa [List.lookup] using e
   injection e with e;subst e;refine⟨_,Array.getElem?_setIfInBounds_self_of_lt (by simp;omega),w10.heap.size,cap9,rfl,.inr rfl,fun i u q=>?_⟩;have hil:i < n.length:=by
    rcases Nat.lt_or_ge i n.length with q1 | q1
    ·exact q1
    ·rw[List.getElem?_eq_none (by simpa [Lib.byteCells] using q1)] at q;cases q
   rw[World.cell?_setCell_other _ ⟨N,b.toNat,none⟩ ⟨w10.heap.size,i,none⟩ _ (by intro e;injection e with e;omega),Lib.bytesWorld_cell w10 5 (st n) i hil];rw[← q];simp[Lib.byteCells,List.getD,List.getElem?_eq_getElem hil,st]
  ·have hbn:(b == c)=false:=by simpa using hbc
   have hb2:b.toNat ≠ c.toNat:=fun e=>hbc (UInt8.toNat_inj.1 e)
   have hb3:=b.toNat_lt;have hlb:List.lookup b ((c,n) :: Mk.reps.drop (j + 1))=List.lookup b (Mk.reps.drop (j + 1)):=by simp[List.lookup,hbn]
   have hcb:((cs.setIfInBounds 256 (.slice ao' (4 - j) cap')).setIfInBounds c.toNat (.slice (some ⟨w10.heap.size,0,none⟩) n.length cap9))[b.toNat]? = cs[b.toNat]?:=by
    rw[Array.getElem?_setIfInBounds_ne (fun e=>hb2 e.symm),Array.getElem?_setIfInBounds_ne (by omega)]
   rw[hlb];refine⟨fun e=>hcb.trans ((hrc b).1 e),fun l e=>?_⟩;obtain⟨v,q1,q2⟩:=(hrc b).2 l e;exact⟨v,hcb.trans q1,q2.frame hrest⟩
theorem st_build (R g cap:Nat) (w:World) (hgl:g < w.heap.size) (hR:w.cell? ⟨R,4,none⟩=some (.slice (some ⟨g,0,none⟩) 8 cap)) (hA:∀ (j:Nat) (u:Value),(z09 Mk.olds)[j]? = some u→w.cell? ⟨g,j,none⟩=some u) :
  Calls prog 171 #[.pointer (some ⟨R,0,none⟩)] w fun e w'=>∃ N,e=.returned (.iface 215 (.pointer (some ⟨N,0,none⟩)))∧w.heap.size≤N∧RepB w' w.heap.size N 0∧Below w.heap.size w w':=by
 have HR:Hid (∀ k,k < 4→∃ c n,Mk.reps[k]? = some (c,n)∧w.cell? ⟨g,2 * k,none⟩=some (.string (st [c]))∧w.cell? ⟨g,2 * k + 1,none⟩=some (.string (st n))∧4≤n.length∧n.length≤6):=fun k hk=>by
  obtain⟨c,n,h1,h2,h3,h4,h5⟩:=Mk.olds_at k hk;exact⟨c,n,h1,hA _ _ (by simp[z09,h2]),hA _ _ (by simp[z09,h3]),h4,h5⟩
 clear hA;have hst:∀ l:List UInt8,(st l).toList=l:=fun l=>Lib.toList_data _
 go_enter func171,ntmps171;go_wp2_with fail
 go_loopw [4,5] (fun ab i wr=>∃ k:Nat,k≤4∧i=.int .i64 (2 * k:Nat)∧ab=.bool (k == 0)∧wr=w) (fun _ i _=>8 - (intOf i).toNat)
 case atStart=>exact⟨0,by omega,rfl,rfl,rfl⟩
 case round =>
  obtain⟨k,hk,rfl,rfl,rfl⟩:=hrel
  by_cases hlt:k < 4
  ·obtain⟨c,n,h1,y0,y1,h4,h5⟩:=HR.out k hlt
   have hn1:¬ (n.length:Int)=1:=by omega
   have hk2:((2 * k:Nat):Int) < 8:=by omega
   have hk3:((2 * k:Nat):Int) + 1 < 8:=by omega
   have hk0:(0:Int)≤(2 * k:Nat):=by omega
   have e1:(st [c]).size=1:=rfl;have e2:(st n).size=n.length:=y9 n;clear h1;go_wp2_with fail;go_roundw
   case rel=>exact⟨k + 1,by omega,by congr 1,by simp,trivial⟩
   case measure=>simp[intOf];omega
  ·have:k=4:=by omega
   subst this;obtain⟨wa,hwa⟩:∃ x,x=wr:=⟨_,rfl⟩;subst hwa;clear hk hlt;go_upto_region 26 with fail;clear hR;obtain⟨i0,hi,hz0,hz1,hz2⟩:=info_parts Tryz.infoStr;go_wp2_with (at_make;refine wpList_make_own wa rfl _ _ 105 rfl wa.heap.size 9 i0 (.string ⟨#[]⟩) 1 underlying105 hi hz0 hz1 .i64 .i64 4 4 rfl rfl rfl (by rw[hz2];decide) (by decide) (Lr) ?_);intro w1 hown hgrow;obtain⟨hz,hs⟩:=zero_of_info q9m;refine wpList_build rfl 214 #[(1,.tmp 94)] rfl ?_ ?_
   ·simp only [List.map_toArray,List.map_cons,List.map_nil]
    show (prog.built 214 [(1,.slice (some ⟨wa.heap.size,0,none⟩) 0 4)]).isSome=true;rw[q6l];rfl
   ·simp only [List.map_toArray,List.map_cons,List.map_nil]
    change wpList _ _ _ _ (Act.put _ _ (.agg ((prog.built 214 [(1,.slice (some ⟨wa.heap.size,0,none⟩) 0 4)]).getD #[]))) w1;rw[q6l];refine Great.wpList_runTo rfl (some 11) rfl (.pointer (some ⟨w1.heap.size,0,none⟩)) (w1.alloc (.cells (repC (.slice none 0 0)) 214)) (j6d _ _ rfl w1) ?_;refine wpList_store_row rfl 214 (.tmp 11) (.tmp 95) rfl w1.heap.size (repC (.slice (some ⟨wa.heap.size,0,none⟩) 0 4)) rfl rfl 214 (repC (.slice none 0 0)) (heap_alloc_last w1 _) (by rw[rep_size];exact hs) (by rw[rep_size,rep_size]) (rep_one _ _ _) ?_;rw[World.setRow_alloc_new];change wpList _ _ _ _ _ _;have hb0:Below wa.heap.size wa (w1.alloc (.cells (repC (.slice (some ⟨wa.heap.size,0,none⟩) 0 4)) 214)):=((Below.refl _ wa).grown hgrow (Lr) (by intro k hk;cases hk)).alloc hgrow.size _;have HREP:Hid (RepB (w1.alloc (.cells (repC (.slice (some ⟨wa.heap.size,0,none⟩) 0 4)) 214)) wa.heap.size w1.heap.size 4):=repB_new hown hgrow.size;have HBL:=Ld hb0;have hNB:wa.heap.size≤w1.heap.size:=hgrow.size;generalize hN:w1.heap.size=N at HREP HBL hNB ⊢;generalize (w1.alloc (.cells (repC (.slice (some ⟨wa.heap.size,0,none⟩) 0 4)) 214))=w2 at HREP HBL ⊢;clear hN hown hgrow hz hs hi hz0 hz1 hz2 hb0;go_wp2_with fail;have q50:∀ (w:World) (a:Option Addr) (n c n' c':Nat),(binOp .eql 85 (.slice a n c) (.slice none n' c')).run prog w=.ok (.bool a.isNone) w:=fun w a n c n' c'=>Lib.run_eql_slice_nil w _ _ a n c n' c' underlying85
    go_loopw [12] (fun i wx=>∃ k:Nat,k≤4∧i=.int .i64 (((2 * k:Nat):Int) - 2)∧Hid (RepB wx wa.heap.size N k)∧Hid (Below wa.heap.size wa wx)) (fun i _=>(intOf i + 2).toNat)
    case atStart=>exact⟨4,Lr,rfl,HREP.out,HBL.out⟩
    case round =>
     clear HREP HBL;obtain⟨k,hk,rfl,HREP,HBL⟩:=hrel
     cases k with
     | zero =>
      go_wp2_with fail;go_ret;exact⟨N,rfl,hNB,HREP.out,HBL.out⟩
     | succ j =>
      obtain⟨c,n,h1,y0,y1,h4,h5⟩:=HR.out j (by omega);rw[← HBL.out.cell (p:=⟨g,_,none⟩) hgl] at y0 y1;rw[show (((2 * (j + 1):Nat):Int) - 2)=((2 * j:Nat):Int) by omega];have hk2:((2 * j:Nat):Int) < 8:=by omega
      have hk3:((2 * j:Nat):Int) + 1 < 8:=by omega
      have hk0:(0:Int)≤(2 * j:Nat):=by omega
      have hc6:=c.toNat_lt;have hc7:(c.toNat:Int) < 256:=by omega
      have e1:(st [c]).size=1:=rfl;have e2:(st n).size=n.length:=y9 n;have e3:∀ h,(st [c])[0]'h=c:=fun _=>rfl
      obtain⟨cs,ao,capr,xs,K,hB,hcs,h256,hown,hoN,hK,hxs,hrc⟩:=HREP.out;have hm4:4 - j=(4 - (j + 1)) + 1:=by omega
      have hm3:4 - (j + 1)≤3:=by omega
      generalize 4 - (j + 1)=m at h256 hown hoN hK hm4 hm3;have hlk:(Mk.reps.drop (j + 1)).lookup c=none:=by
       match j,hk with
       | 0,_=>cases h1;rfl
       | 1,_=>cases h1;rfl
       | 2,_=>cases h1;rfl
       | 3,_=>cases h1;rfl
      have c0:wr.cell? ⟨N,c.toNat,none⟩=some (.slice none 0 0):=(Blk.cell hB _).trans ((hrc c).1 hlk);have c6:wr.cell? ⟨N,256,none⟩=some (.slice ao m capr):=(Blk.cell hB _).trans h256;have hB9:wa.heap.size≤wr.heap.size:=HBL.out.size;have hNl:N < wr.heap.size:=Blk.lt hB;have P1:=Ld (Blk.new wr 5 #[.int .u8 c.toNat]);have hcv:(convert 85 9 (.slice (some ⟨wr.heap.size,0,none⟩) 1 1)).run prog (wr.alloc (.cells #[.int .u8 c.toNat] 5))=.ok (.string (st [c])) (wr.alloc (.cells #[.int .u8 c.toNat] 5)) :=
       z0z (P:=prog) (wr.alloc (.cells #[.int .u8 c.toNat] 5)) 85 9 5 underlying85 underlying5 underlying9 (base:=wr.heap.size) (n:=1) (v:=.slice (some ⟨wr.heap.size,0,none⟩) 1 1) [c] ⟨rfl,.inr ⟨wr.heap.size,1,_,rfl,Lr,P1.out,Lr,by decide,rfl,rfl⟩⟩
      have hal:=(((Below.refl wr.heap.size wr).alloc (Lr) (.cells #[.int .u8 c.toNat] 5)).alloc (by simp) (.cells #[.string (st [c])] 9));have OW:=Ld (X8 hown (((Ap.refl (fun _=>False) wr).alloc (.cells #[.int .u8 c.toNat] 5)).alloc (.cells #[.string (st [c])] 9)) (fun _ _ q=>q));have HNEW:Hid (∀ j u,[Value.string (st [c])][j]? = some u→((wr.alloc (.cells #[.int .u8 c.toNat] 5)).alloc (.cells #[.string (st [c])] 9)).cell? ((⟨wr.heap.size + 1,0,none⟩:Addr).add j)=some u):=by
       have q:=cell_one_new (wr.alloc (.cells #[.int .u8 c.toNat] 5)) (.string (st [c])) 9;rw[World.size_alloc] at q;exact q
      have HX:=Ld (And.intro hB (And.intro hcs (And.intro h256 (And.intro hown (And.intro hoN (And.intro hK (And.intro hxs hrc)))))));have H1:=Ld h1;have HLK:=Ld hlk;have HAL:=Ld hal;clear hB hcs h256 hoN hK hxs hrc h1 hlk hal;obtain⟨i0,hi,hz0,hz1,hz2⟩:=info_parts Tryz.infoStr;go_wp2_with (at_builtin;refine Q9 rfl _ _ 105 rfl wa.heap.size 9 i0 (.string ⟨#[]⟩) 1 16 underlying105 hi hz0 hz1 hz2 rfl (by decide) _ _ _ rfl OW.out ⟨wr.heap.size + 1,0,none⟩ 1 1 [.string (st [c])] rfl rfl HNEW.out (one_cell _ rfl) (by decide) (by unfold maxLen;omega) (by omega) (by simp;omega) ?_);intro v' w9 hown' hgrow hfresh;obtain⟨ao',cap',hv'⟩:=Y1 hown';subst hv';obtain⟨hB,hcs,h256,hown0,hoN,hK,hxs,hrc⟩:=HX.out;have hkeep:∀ b,b < wr.heap.size→(Value.slice ao m capr).ownBlock ≠ some b→w9.heap[b]? = wr.heap[b]?:=fun b q1 q2=>(hgrow.block b (by simp;omega) (fun e=>q2 e.symm)).trans (HAL.out.block b q1)
      have hB9':Blk w9 N 214 cs:=(hkeep N hNl hoN).trans hB;have hBL9:=HBL.out.trans ((Ap.of_below HAL.out).grown (S:=fun x=>(Value.slice ao m capr).ownBlock=some x) hgrow (fun k _ e=>e) |>.below hB9 (fun k q1 q2=>by have:=(hown0.lt k q2).1;omega));have HBL9:=Ld hBL9;have d6:w9.cell? ⟨N,256,none⟩=some (.slice ao m capr):=(Blk.cell hB9' _).trans h256;have g6:w9.frozen? ⟨N,256,none⟩=false:=Blk.frozen hB9' _;have d7:w9.cell? ⟨N,c.toNat,none⟩=some (.slice none 0 0):=(cell_of_block (hkeep N hNl hoN) _).trans c0;have g7:w9.frozen? ⟨N,c.toNat,none⟩=false:=Blk.frozen hB9' _;have h9s:wr.heap.size≤w9.heap.size:=Nat.le_trans HAL.out.size hgrow.size;have hN9:N < w9.heap.size:=by omega
      have HB9:=Ld hB9';have HKP:=Ld hkeep;have HOW:=Ld hown';have HFR:=Ld hfresh;clear hB hcs h256 hown0 hoN hK hxs hrc hkeep hB9' hBL9 hown' hfresh hgrow OW HNEW P1 hcv y0 y1 c0 c6 HBL hi hz0 hz1 hz2 hown;clear e1 e2 e3;go_upto_region 34 with fail;have hfr9:∀ g,(Value.slice ao' (m + 1) cap').ownBlock=some g→g < wr.heap.size→(Value.slice ao m capr).ownBlock=some g:=fun g e q=>by
       rcases HFR.out with e' | e'
       ·rw[← e'];exact e
       ·rw[e] at e'
        injection e' with e'
        first | omega | (simp at e';omega)
      obtain⟨hB,hcs,h256,hown0,hoN,hK,hxs,hrc⟩:=HX.out;have hvN:(Value.slice ao' (m + 1) cap').ownBlock ≠ some N:=fun e=>hoN (hfr9 N e hNl)
      have HSTEP:=Ld (fun cap9=>RepB.step (cap9:=cap9) (w10:=w9.setCell ⟨N,256,none⟩ (.slice ao' (m + 1) cap')) H1.out HLK.out hcs hown0 hm4 hNl hK hxs hrc hB9 (fun b q1 q2 q3=>(Below.heap_setCell w9 ⟨N,256,none⟩ _ b q3).trans (HKP.out b q1 q2)) (Blk.set_ HB9.out 256 _) (ownsRow_setCell_other HOW.out (a:=⟨N,256,none⟩) hvN _) hvN hfr9 (by simpa [World.setCell] using h9s));have hcv:=Lib.run_convert_string_bytes (P:=prog) (w9.setCell ⟨N,256,none⟩ (.slice ao' (m + 1) cap')) 9 85 5 (st n) underlying9 underlying85 underlying5;have hbl:=HBL9.out.setCell (p:=⟨N,256,none⟩) hNB (.slice ao' (m + 1) cap');have d8:(w9.setCell ⟨N,256,none⟩ (.slice ao' (m + 1) cap')).cell? ⟨N,c.toNat,none⟩=some (.slice none 0 0):=(World.cell?_setCell_other _ ⟨N,256,none⟩ ⟨N,c.toNat,none⟩ _ (by intro e;injection e with _ e;omega)).trans d7;have g8:(w9.setCell ⟨N,256,none⟩ (.slice ao' (m + 1) cap')).frozen? ⟨N,c.toNat,none⟩=false:=Blk.frozen (Blk.set_ HB9.out 256 _) _;have hN10:N < (w9.setCell ⟨N,256,none⟩ (.slice ao' (m + 1) cap')).heap.size:=by simpa [World.setCell] using hN9
      clear hfr9 hB hcs h256 hown0 hoN hK hxs hrc hvN d6 g6 d7 g7 HREP HX HB9 HKP HOW HFR HBL9 hN9 hNl;generalize (w9.setCell ⟨N,256,none⟩ (.slice ao' (m + 1) cap'))=w10 at HSTEP hcv hbl d8 g8 hN10 ⊢;have d9:(Lib.bytesWorld w10 5 (st n)).cell? ⟨N,c.toNat,none⟩=some (.slice none 0 0):=(Lib.bytesWorld_old w10 5 (st n) ⟨N,c.toNat,none⟩ hN10).trans d8;have g9:(Lib.bytesWorld w10 5 (st n)).frozen? ⟨N,c.toNat,none⟩=false:=(z3c (Lib.bytesWorld_at_old w10 5 (st n) N hN10) _).trans g8;have HBF:Hid (∀ v,Below wa.heap.size wa ((Lib.bytesWorld w10 5 (st n)).setCell ⟨N,c.toNat,none⟩ v)):=fun v=>(hbl.trans ((below_bytesWorld w10 5 (st n)).mono hbl.size)).setCell (p:=⟨N,c.toNat,none⟩) hNB v
      clear hbl d8 g8;go_wp2_with fail;go_roundw
      case rel=>exact⟨j,by omega,by congr 1,HSTEP.out _,HBF.out _⟩
      case measure=>simp[intOf];omega
theorem RepB.frame {w w':World} {B N k:Nat} (h:RepB w B N k) (hb:∀ b,B≤b→b < w.heap.size→w'.heap[b]? = w.heap[b]?) (hs:w.heap.size≤w'.heap.size) (hN:B≤N):RepB w' B N k:=by
 obtain⟨cs,ao,cap,xs,K,h1,h2,h3,h4,h5,h6,h7,h8⟩:=h;have kp:∀ b,K b→K b∧w'.heap[b]? = w.heap[b]?:=fun b q=>⟨q,hb b (h6 b q).1 (h6 b q).2.1⟩
 refine⟨cs,ao,cap,xs,K,(hb N hN (Blk.lt h1)).trans h1,h2,h3,z0f h4 (fun g e=>hb g (h4.lt g e).1 (h4.lt g e).2),h5,fun g q=>⟨(h6 g q).1,Nat.lt_of_lt_of_le (h6 g q).2.1 hs,(h6 g q).2.2⟩,h7,fun b=>⟨(h8 b).1,fun l e=>?_⟩⟩;obtain⟨v,q1,q2⟩:=(h8 b).2 l e;exact⟨v,q1,q2.frame kp⟩
theorem z9v (s:List UInt8) (B N:Nat) (w:World) (h:RepB w B N 0) (hl:s.length < 32) (hp:∀ b ∈ s,Mk.reps.lookup b=none) :
  Calls prog 278 #[.pointer (some ⟨N,0,none⟩),.string (st s)] w fun e w'=>e=.returned (.string (st s))∧w'=w:=by
 obtain⟨cs,ao,cap,xs,K,h1,h2,h3,h4,h5,h6,h7,h8⟩:=h;have c6:w.cell? ⟨N,256,none⟩=some (.slice ao 4 cap):=(Blk.cell h1 _).trans h3;have HC:Hid (∀ i (hi:i < s.length),w.cell? ⟨N,s[i].toNat,none⟩=some (.slice none 0 0)):=fun i hi=>(Blk.cell h1 _).trans ((h8 s[i]).1 (hp _ (List.getElem_mem hi)))
 have hst:∀ l:List UInt8,(st l).toList=l:=fun l=>Lib.toList_data _
 have e2:(st s).size=s.length:=y9 s;have hl2:¬ (32:Int)≤s.length:=by omega
 have q50:∀ (w:World) (a:Option Addr) (n c:Nat),(binOp .neq 85 (.slice a n c) (.slice none 0 0)).run prog w=.ok (.bool (!a.isNone)) w:=fun w a n c=>run_neq_slice_nil w 85 _ a n c underlying85
 clear h1 h2 h3 h4 h5 h6 h7 h8 hp;go_enter func278,ntmps278;go_wp2_with fail
 go_loopw [6,10] (fun an i wx=>∃ k:Nat,k≤s.length∧an=.bool false∧i=.int .i64 k∧wx=w) (fun _ i _=>s.length - (intOf i).toNat)
 case atStart=>exact⟨0,by omega,rfl,rfl,rfl⟩
 case round =>
  obtain⟨k,hk,rfl,rfl,hw⟩:=hrel;subst hw
  by_cases hlt:k < s.length
  ·have hb:=s[k].toNat_lt
   have hb2:(s[k].toNat:Int) < 256:=by omega
   have c0:=HC.out k hlt;obtain⟨x,hx⟩:∃ x,s[k]=x:=⟨_,rfl⟩;rw[hx] at hb hb2 c0;have hget:∀ h,(st s)[k]'h=x:=fun _=>hx
   clear hx;go_wp2_with fail;go_roundw
   case rel=>exact⟨k + 1,by omega,rfl,by go_num,trivial⟩
   case measure=>simp[intOf];omega
  ·have:k=s.length:=by omega
   subst this;go_wp2_with fail;go_ret;exact⟨rfl,rfl⟩
def OnceQ (R:Nat) (w w1:World):Prop:=∃ N,w.heap.size≤N∧Blk w1 R 181 #[.int .u32 0,.int .i32 1,.int .u32 0,.iface 215 (.pointer (some ⟨N,0,none⟩)),.slice none 0 0]∧RepB w1 w.heap.size N 0∧Ap (fun x=>x=R) w w1
theorem z9i (R g cap:Nat) (w:World) (hR:Blk w R 181 #[.int .u32 0,.int .i32 1,.int .u32 0,.nilIface,.slice (some ⟨g,0,none⟩) 8 cap]) (hgl:g < w.heap.size) (hA:∀ (j:Nat) (u:Value),(z09 Mk.olds)[j]? = some u→w.cell? ⟨g,j,none⟩=some u) :
  Calls prog 153 #[.pointer (some ⟨R,0,none⟩)] w fun e w1=>e=.returned (.tuple #[])∧OnceQ R w w1:=by
 have HB:=Ld (st_build R g cap w hgl (Blk.cell hR 4) hA);have HR:=Ld hR;have hRl:=Blk.lt hR;clear hA hR;go_enter func153,ntmps153;go_wp2_with fail;refine HB.out.mono ?_;rintro e w2 ⟨N,rfl,hN,hrep,hb2⟩;have hR2:Blk w2 R 181 _:=Blk.below HR.out hb2 hRl;have c3:w2.cell? ⟨R,3,none⟩=some .nilIface:=Blk.cell hR2 3;have g3:w2.frozen? ⟨R,3,none⟩=false:=Blk.frozen hR2 3;have hR3:=Blk.set_ (Blk.set_ hR2 3 (.iface 215 (.pointer (some ⟨N,0,none⟩)))) 4 (.slice none 0 0);have c4:(w2.setCell ⟨R,3,none⟩ (.iface 215 (.pointer (some ⟨N,0,none⟩)))).cell? ⟨R,4,none⟩=some (.slice (some ⟨g,0,none⟩) 8 cap):=Blk.cell (Blk.set_ hR2 3 _) 4;have g4:(w2.setCell ⟨R,3,none⟩ (.iface 215 (.pointer (some ⟨N,0,none⟩)))).frozen? ⟨R,4,none⟩=false:=Blk.frozen (Blk.set_ hR2 3 _) 4;have HE:Hid (OnceQ R w ((w2.setCell ⟨R,3,none⟩ (.iface 215 (.pointer (some ⟨N,0,none⟩)))).setCell ⟨R,4,none⟩ (.slice none 0 0))):=by
  refine⟨N,hN,hR3,hrep.frame (fun b q1 q2=>?_) (by simp[World.setCell]) hN,((Ap.of_below (S:=fun x=>x=R) hb2).setCell (p:=⟨R,3,none⟩) rfl _).setCell (p:=⟨R,4,none⟩) rfl _⟩;rw[Below.heap_setCell _ ⟨R,4,none⟩ _ b (by show b ≠ R;omega),Below.heap_setCell _ ⟨R,3,none⟩ _ b (by show b ≠ R;omega)]
 clear HB HR hR2 hR3 hrep hb2;go_wp2_with fail;go_end0;exact⟨rfl,HE.out⟩
theorem z7h (s:List UInt8) (R g cap:Nat) (w:World) (hR:Blk w R 181 #[.int .u32 0,.int .i32 0,.int .u32 0,.nilIface,.slice (some ⟨g,0,none⟩) 8 cap]) (hgR:g ≠ R) (hgl:g < w.heap.size) (hA:∀ (j:Nat) (u:Value),(z09 Mk.olds)[j]? = some u→w.cell? ⟨g,j,none⟩=some u) (hl:s.length < 32) (hp:∀ b ∈ s,Mk.reps.lookup b=none) :
  Calls prog 135 #[.pointer (some ⟨R,0,none⟩),.string (st s)] w fun e w'=>e=.returned (.string (st s))∧Ap (fun x=>x=R) w w':=by
 have hRl:=Blk.lt hR;have hO:=z9i R g cap (w.setCell ⟨R,1,none⟩ (.int .i32 1)) (Blk.set_ hR 1 _) (by simpa [World.setCell] using hgl) (fun j u q=>(cell_of_block (Below.heap_setCell w ⟨R,1,none⟩ _ g hgR) j).trans (hA j u q));have HD:=Ld (rc_do R (OnceQ R (w.setCell ⟨R,1,none⟩ (.int .i32 1))) w (Blk.cell hR 0) (Blk.cell hR 1) (Blk.frozen hR 0) (Blk.frozen hR 1) (fun w1 ⟨N,q1,q2,q3,q4⟩=>⟨Blk.cell q2 0,Blk.cell q2 1,Blk.frozen q2 0,Blk.frozen q2 1⟩) hO);have HL:=Ld hl;have HP:=Ld hp;clear hO hA hR hl hp;go_enter func135,ntmps135;go_wp2_with fail;refine HD.out.mono ?_;rintro e w2 ⟨rfl,w1,⟨N,hN,hR1,hrep,hap⟩,rfl⟩;have hs0:(w.setCell ⟨R,1,none⟩ (.int .i32 1)).heap.size=w.heap.size:=by simp[World.setCell]
 rw[hs0] at hN hrep;have hR2:=Blk.set_ (Blk.set_ (Blk.drew hR1) 0 (.int .u32 1)) 1 (.int .i32 0);have hrep2:RepB ((w1.drew.setCell ⟨R,0,none⟩ (.int .u32 1)).setCell ⟨R,1,none⟩ (.int .i32 0)) w.heap.size N 0:=hrep.frame (fun b q1 q2=>by
  rw[Below.heap_setCell _ ⟨R,1,none⟩ _ b (by show b ≠ R;omega),Below.heap_setCell _ ⟨R,0,none⟩ _ b (by show b ≠ R;omega)];rfl) (by simp[World.setCell]) hN
 have hap2:Ap (fun x=>x=R) w ((w1.drew.setCell ⟨R,0,none⟩ (.int .u32 1)).setCell ⟨R,1,none⟩ (.int .i32 0)):=(((((Ap.refl (fun x=>x=R) w).setCell (p:=⟨R,1,none⟩) rfl (.int .i32 1)).trans hap).drew).setCell (p:=⟨R,0,none⟩) rfl _).setCell (p:=⟨R,1,none⟩) rfl _;generalize ((w1.drew.setCell ⟨R,0,none⟩ (.int .u32 1)).setCell ⟨R,1,none⟩ (.int .i32 0))=w3 at hR2 hrep2 hap2 ⊢;have c3:w3.cell? ⟨R,3,none⟩=some (.iface 215 (.pointer (some ⟨N,0,none⟩))):=Blk.cell hR2 3;have HS:=Ld (z9v s w.heap.size N w3 hrep2 HL.out HP.out);have HAP:=Ld hap2;clear hR1 hrep hap hR2 hrep2 hap2 hs0 HD HL HP;go_wp2_with fail;refine HS.out.mono ?_;rintro e w4 ⟨rfl,hw⟩;subst w4;go_wp2_with fail;go_ret;exact⟨rfl,HAP.out⟩
theorem q5p (s:List UInt8) (w:World) (hl:s.length < 32) (hp:∀ b ∈ s,Mk.reps.lookup b=none) :
  Calls prog 104 #[.string (st s)] w fun e w'=>e=.returned (.string (st s))∧Below w.heap.size w w':=by
 have hnew:=z6x w.heap.size (w.alloc (.cells (z09 Mk.olds).toArray 9)) (Y9 w 9 (z09 Mk.olds).toArray);have hal:=(Below.refl w.heap.size w).alloc (Lr) (.cells (z09 Mk.olds).toArray 9);have HN:=Ld hnew;have HAL:=Ld hal;have HL:=Ld hl;have HP:=Ld hp;clear hnew hal hl hp;go_enter func104,ntmps104;go_wp2_with fail;refine HN.out.mono ?_;rintro e w2 ⟨R,ao,cap,rfl,hRl,hR,hown,hoR,hb2⟩
 rcases hown.2 with ⟨_,q⟩ | ⟨g,cap',cur,hv,hbg,hh,hnc,hcm,hcs,ht⟩
 ·cases q
 ·injection hv with e1 e2 e3
  subst e1;subst e3;have hcl:=hown.cells (g:=g) rfl;have hgl:=(hown.lt g rfl).2;have HR:=Ld (z7h s R g cap w2 hR (fun e=>hoR (by rw[← e];rfl)) hgl (fun j u q=>by have:=hcl j u q;rwa [show (⟨g,0,none⟩:Addr).add j=⟨g,j,none⟩ by unfold Addr.add;split <;> simp_all] at this) HL.out HP.out);have HB2:=Ld (HAL.out.trans (hb2.mono HAL.out.size));have hRw:w.heap.size≤R:=Nat.le_trans HAL.out.size hRl;clear hR hown hoR hcl hb2 HN HL HP hh hcs ht;go_wp2_with fail;refine HR.out.mono ?_;rintro e w3 ⟨rfl,ha3⟩;have HB3:=Ld (HB2.out.trans (ha3.below HB2.out.size (fun k q1 q2=>by omega)));clear ha3 HR;go_wp2_with fail;go_ret;exact⟨rfl,HB3.out⟩
theorem q48 (s:List UInt8) (w:World) (hl:s.length < 32) (hp:∀ b ∈ s,Mk.reps.lookup b=none) :
  Calls prog 69 #[.string (st s)] w fun e w'=>e=.returned (.string (st s))∧Below w.heap.size w w':=by
 have HP:=Ld (q5p s w hl hp);clear hl hp;go_enter func69,ntmps69;go_wp2_with fail;refine HP.out.mono ?_;rintro e w2 ⟨rfl,hb2⟩;have HB:=Ld hb2;clear hb2 HP;go_wp2_with fail;go_ret;exact⟨rfl,HB.out⟩
def j0c (s:List UInt8):Prop:=∀ W:World,Calls prog 69 #[.string (st s)] W fun e w'=>e=.returned (.string (st (Mk.put s)))∧Below W.heap.size W w'
theorem q6h:∀ s:List UInt8,(∀ b ∈ s,Mk.reps.lookup b=none)→Mk.put s=s
 | [],_=>rfl
 | b :: r,h=>by
  have h1:=Mk.q03 b;rw[h b (by simp)] at h1;show Mk.esc b++Mk.put r=b :: r;rw[h1,q6h r (fun x q=>h x (by simp[q]))];rfl
theorem q8p (s:List UInt8) (hl:s.length < 32) (hp:∀ b ∈ s,Mk.reps.lookup b=none):j0c s:=fun W=>by
 rw[q6h s hp];exact q48 s W hl hp
end Go.Proofs.YtagleefekmdldaaGreatDoor
